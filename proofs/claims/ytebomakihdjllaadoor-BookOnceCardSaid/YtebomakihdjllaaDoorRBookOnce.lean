/- The statement of BookOnce: for every input the law returns true, and the arguments read as they did. (its listed variable reads as laid; the card ties it) -/
import Derived.Test.YtebomakihdjllaaDoorMBookOnce
import Derived.Test.YtebomakihdjllaaDoorTl
import Derived.Test.YtebomakihdjllaaDoorKe
import Derived.Deep.DeepCutAuto
import Derived.Deep.CutBlock
import Derived.Deep.RegionWith
import Derived.BigQuiet
import Derived.Test.YtebomakihdjllaaDoorRows
import Derived.Test.YtebomakihdjllaaDoorWv
import Derived.ProofKit
import Derived.LaidMore
import Derived.OpenShut
import Derived.MakeChecks
import Derived.Deep.Strs
import Derived.LaidHandle
import Derived.Test.YtebomakihdjllaaDoorFr
import Derived.SizedLaws
import Derived.Test.YtebomakihdjllaaDoorTie
import Derived.Test.YtebomakihdjllaaDoorCards
import Derived.SevenTiedAt
namespace Go.Proofs.YtebomakihdjllaaDoor
open Go.RowKit
set_option maxRecDepth 100000
set_option linter.unusedVariables false
set_option linter.unusedSimpArgs false
/-- A seal that lies in a block. -/
structure SeAt (w : World) (b : Nat) (s : Sp) (z : Int) : Prop where
  c0 : w.cell? ⟨b, 0, none⟩ = some (.int .i64 s.x)
  c1 : w.cell? ⟨b, 1, none⟩ = some (.int .i64 s.y)
  c2 : w.cell? ⟨b, 2, none⟩ = some (.bool s.far)
  c3 : w.cell? ⟨b, 3, none⟩ = some (.int .i64 z)
  f0 : w.frozen? ⟨b, 0, none⟩ = false
  f1 : w.frozen? ⟨b, 1, none⟩ = false
  f2 : w.frozen? ⟨b, 2, none⟩ = false
  f3 : w.frozen? ⟨b, 3, none⟩ = false
  lt : b < w.heap.size
theorem SeAt.below {w w' : World} {b : Nat} {s : Sp} {z : Int} (h : SeAt w b s z) (hb : Below w.heap.size w w') : SeAt w' b s z :=
  ⟨((bcell hb).1 _ _ h.lt).trans h.c0, ((bcell hb).1 _ _ h.lt).trans h.c1, ((bcell hb).1 _ _ h.lt).trans h.c2, ((bcell hb).1 _ _ h.lt).trans h.c3, ((bcell hb).2 _ _ h.lt).trans h.f0, ((bcell hb).2 _ _ h.lt).trans h.f1, ((bcell hb).2 _ _ h.lt).trans h.f2, ((bcell hb).2 _ _ h.lt).trans h.f3, Nat.lt_of_lt_of_le h.lt hb.size⟩
theorem SeAt.fresh (w : World) (x y : Int) (f : Bool) (z : Int) (t : TypeId) : SeAt (w.alloc (.cells #[.int .i64 x, .int .i64 y, .bool f, .int .i64 z] t)) w.heap.size ⟨x, y, f⟩ z := ⟨by simp, by simp, by simp, by simp, by simp, by simp, by simp, by simp, by simp⟩
theorem SeAt.drew {w : World} {b : Nat} {s : Sp} {z : Int} (h : SeAt w b s z) : SeAt w.drew b s z := ⟨h.c0, h.c1, h.c2, h.c3, h.f0, h.f1, h.f2, h.f3, h.lt⟩
theorem SeAt.alloc {w : World} {b : Nat} {s : Sp} {z : Int} (h : SeAt w b s z) (o : Obj) : SeAt (w.alloc o) b s z := h.below (below_alloc w o)
theorem SeAt.set4 {w : World} {b : Nat} {s : Sp} {z : Int} (h : SeAt w b s z) (v : Sp) (y : Int) : SeAt ((((w.setCell ⟨b, 0, none⟩ (.int .i64 v.x)).setCell ⟨b, 1, none⟩ (.int .i64 v.y)).setCell ⟨b, 2, none⟩ (.bool v.far)).setCell ⟨b, 3, none⟩ (.int .i64 y)) b v y := by
  obtain ⟨h0, h1, h2, h3, f0, f1, f2, f3, hl⟩ := h
  have k := set4_cell (x := .int .i64 v.x) (y := .int .i64 v.y) (z := .bool v.far) (p := .int .i64 y) h0 h1 h2 h3
  exact ⟨k.1, k.2.1, k.2.2.1, k.2.2.2, by simpa using f0, by simpa using f1, by simpa using f2, by simpa using f3, by simpa [World.setCell] using hl⟩
theorem SeAt.zero_of {w : World} {b : Nat} (h0 : w.cell? ⟨b, 0, none⟩ = some (.int .i64 0)) (h1 : w.cell? ⟨b, 1, none⟩ = some (.int .i64 0)) (h2 : w.cell? ⟨b, 2, none⟩ = some (.bool false)) (h3 : w.cell? ⟨b, 3, none⟩ = some (.int .i64 0)) (f0 : w.frozen? ⟨b, 0, none⟩ = false) (f1 : w.frozen? ⟨b, 1, none⟩ = false) (f2 : w.frozen? ⟨b, 2, none⟩ = false) (f3 : w.frozen? ⟨b, 3, none⟩ = false) (hl : b < w.heap.size) : SeAt w b ⟨0, 0, false⟩ 0 := ⟨h0, h1, h2, h3, f0, f1, f2, f3, hl⟩
theorem nocoin0 : NoCoin ⟨0, 0, false⟩ := by
  rcases coin_is ⟨0, 0, false⟩ with ⟨n, h⟩ | h
  · exfalso
    have h2 : sSum ⟨0, 0, false⟩ ⟨0, 0, false⟩ = ⟨0, 0, true⟩ := by rfl
    rw [h, qS_add] at h2
    have h3 : (qS (n + n)).far = true := by rw [h2]
    unfold qS at h3 h
    have h4 := sq_far.mp h3
    have h5 : (sq (4 * n)).far = true := sq_far.mpr (by omega)
    rw [← h] at h5
    exact Bool.noConfusion h5
  · exact h
/-- What is no spot makes no book. -/
theorem bnew_zero (v : Value) (w : World) (hF : FarAt w) (hv : SpSl w v [⟨0, 0, false⟩]) : Calls Tryd.prog 7 #[v] w fun e w' => e = .returned (.tuple #[.pointer none, .iface 69 (.int .i64 3)]) ∧ Below w.heap.size w w' := by
  obtain ⟨a, c, rfl, h⟩ := hv
  exact bnew_n 1 (.iface 69 (.int .i64 3)) a c w ⟨3, rfl⟩ (bcheck_core [⟨0, 0, false⟩] 0 _ a c w hF (by decide) h (Lib.hid fun k _ h => absurd h (Nat.not_lt_zero _)) (by decide) (Lib.hid fun _ => nocoin0) (Lib.hid fun _ => rfl) (Lib.hid fun h => absurd h (by decide)))
theorem bnew_one (n : Int) (A : Sp) (v : Value) (w : World) (hF : FarAt w) (hA : Hid (A = qS n)) (hv : SpSl w v [A]) : Calls Tryd.prog 7 #[v] w fun e w' => ∃ p, e = .returned (.tuple #[.pointer (some ⟨p, 0, none⟩), .nilIface]) ∧ BkAt w' w.heap.size p [n] [false] ∧ Below w.heap.size w w' := by
  rw [hA.out] at hv
  obtain ⟨a, c, rfl, h⟩ := hv
  exact bnew_y [n] a c w (by simp) hF h
theorem bcheck_one (y : Int) (TO : Sp) (b1 : Nat) (w : World) (hF : FarAt w) (hT : Hid (TO = qS y)) (h1 : SpotsAt w b1 0 [TO]) : Calls Tryd.prog 34 #[.slice (some ⟨b1, 0, none⟩) 1 1] w fun e w' => e = .returned .nilIface ∧ Below w.heap.size w w' :=
  bcheck_core [TO] 1 .nilIface _ 1 w hF (by simp) (fun _ => ⟨_, _, rfl, h1⟩) (Lib.hid fun k h _ => ⟨y, by obtain rfl : k = 0 := (by simp at h; omega); exact hT.out⟩) (by simp) (Lib.hid fun h => absurd h (by simp)) (Lib.hid fun h => absurd h (by simp)) (Lib.hid fun _ => rfl)
theorem bcheck_nil (w : World) (hF : FarAt w) : Calls Tryd.prog 34 #[.slice none 0 0] w fun e w' => e = .returned .nilIface ∧ Below w.heap.size w w' :=
  bcheck_core [] 0 .nilIface _ 0 w hF (by simp) (fun h => absurd h (by simp)) (Lib.hid fun k h _ => absurd h (Nat.not_lt_zero _)) (by simp) (Lib.hid fun h => absurd h (by simp)) (Lib.hid fun h => absurd h (by simp)) (Lib.hid fun _ => rfl)
theorem gErr_ok {G : List Bool} {n : Nat} (h : n < G.length) (hg : G.getD n true = false) : gErrB G [] (n : Int) = 0 := by
  unfold gErrB
  rw [if_neg (by omega), if_neg (by rw [Int.toNat_natCast, hg]; simp), if_neg (by simp)]
theorem gErr_gone {G : List Bool} {n : Nat} (h : n < G.length) (hg : G.getD n true = true) : gErrB G [] (n : Int) = 6 := by
  unfold gErrB
  rw [if_neg (by omega), if_pos (by rw [Int.toNat_natCast, hg])]
theorem bex_one (N : List Int) (G : List Bool) (B p n b0 b1 : Nat) (x y : Int) (TO X : Sp) (w : World) (hF : FarAt w) (hBk : BkAt w B p N G) (hNl : N.length ≤ 1000) (hl : n < G.length) (hg : Hid (G.getD n true = false)) (hx : Hid (N.getD n 0 = x)) (hT : Hid (TO = qS y)) (hX : Hid (qS (-x + y) = X)) (h0 : IntsAt w b0 0 [(n : Int)]) (h1 : SpotsAt w b1 0 [TO]) :
    Calls Tryd.prog 9 #[.pointer (some ⟨p, 0, none⟩), .slice (some ⟨b0, 0, none⟩) 1 1, .slice (some ⟨b1, 0, none⟩) 1 1] w fun e w' => e = .returned (.tuple #[spV X, .nilIface]) ∧ Below w.heap.size w w' := by
  refine bex_core N G B p [(n : Int)] [TO] _ _ 1 1 1 0 .nilIface _ w hF hBk (by omega) (by simp) (Nat.le_refl _) (by simp) (fun _ => ⟨_, _, rfl, h0⟩) (fun _ => ⟨_, _, rfl, h1⟩) (by simp) (Nat.le_refl _) (fun i h _ => ?_) (fun h => absurd h (Nat.lt_irrefl _)) (Lib.hid fun w1 hb => bcheck_one y TO b1 w1 (hF.below hb) hT (h1.below hb)) (Lib.hid fun h => absurd h (Nat.lt_irrefl _)) (Lib.hid fun _ => .inr ⟨rfl, [y], by rw [hT.out]; rfl, ?_⟩)
  · obtain rfl : i = 0 := by simp at h; omega
    exact gErr_ok hl hg.out
  · have : outN N [(n : Int)] + [y].sum = -x + y := by unfold outN; simp only [List.map_cons, List.map_nil, Int.toNat_natCast, hx.out, List.sum_cons, List.sum_nil]; omega
    rw [this, hX.out]
theorem bex_gone (N : List Int) (G : List Bool) (B p n b0 : Nat) (w : World) (hF : FarAt w) (hBk : BkAt w B p N G) (hNl : N.length ≤ 1000) (hl : n < G.length) (hg : Hid (G.getD n true = true)) (h0 : IntsAt w b0 0 [(n : Int)]) :
    Calls Tryd.prog 9 #[.pointer (some ⟨p, 0, none⟩), .slice (some ⟨b0, 0, none⟩) 1 1, .slice none 0 0] w fun e w' => e = .returned (.tuple #[spV ⟨0, 0, false⟩, .iface 69 (.int .i64 6)]) ∧ Below w.heap.size w w' :=
  bex_core N G B p [(n : Int)] [] _ _ 1 0 0 6 .nilIface _ w hF hBk (by omega) (by simp) (Nat.le_refl _) (by simp) (fun _ => ⟨_, _, rfl, h0⟩) (fun h => absurd h (by simp)) (by simp) (by simp) (fun i _ h => absurd h (Nat.not_lt_zero _)) (fun h => ⟨gErr_gone hl hg.out, by decide⟩) (Lib.hid fun w1 hb => bcheck_nil w1 (hF.below hb)) (Lib.hid fun _ => rfl) (Lib.hid fun h => absurd h (by simp))
theorem bdo_one (N : List Int) (G : List Bool) (B p n b0 b1 : Nat) (vc vg : Value) (x y : Int) (TO X RS : Sp) (s : Int) (w : World) (hF : FarAt w) (hBk : BkV w B p vc vg N G) (hB0 : B ≤ w.heap.size) (hNl : N.length ≤ 900) (hl : n < G.length) (hg : Hid (G.getD n true = false)) (hx : Hid (N.getD n 0 = x)) (hT : Hid (TO = qS y)) (hX : Hid (qS (-x + y) = X)) (h0 : IntsAt w b0 0 [(n : Int)]) (h1 : SpotsAt w b1 0 [TO]) (hn0 : ¬ inB p vc vg b0) (hn1 : ¬ inB p vc vg b1)
    (s0 : 0 ≤ s) (s1 : s < 1013) (oR : Ok RS) (hq : Hid (Sp.beq (sq (4 * hJ * s)) (sSum RS (sq (4 * (-x + y) * bAsk RS X))) = true)) :
    Calls Tryd.prog 12 #[.pointer (some ⟨p, 0, none⟩), dlV (.slice (some ⟨b0, 0, none⟩) 1 1) (.slice (some ⟨b1, 0, none⟩) 1 1) RS s] w fun e w' => e = .returned .nilIface ∧ Did w w' B p vc vg (N ++ [y]) (G.set n true ++ [false]) := by
  have := hBk.ln
  have h1' : SpotsAt w b1 0 ([y].map qS) := by rw [hT.out] at h1; exact h1
  have hb := bdo_y N [y] G B p vc vg [(n : Int)] [TO] (some ⟨b0, 0, none⟩) (some ⟨b1, 0, none⟩) 1 1 RS s X (-x + y) w hF hBk hB0 (by omega) (Lib.hid hX.out.symm) (by simp) (fun _ => ⟨_, _, rfl, h0, hn0⟩) (fun _ => ⟨_, _, rfl, h1', hn1⟩)
    (fun g hg => by rw [List.mem_singleton] at hg; omega) (Lib.hid fun w1 hb => bex_one N G B p n b0 b1 x y TO X w1 (hF.below hb) ⟨_, _, hBk.below hb⟩ (by omega) hl hg hx hT hX (h0.below hb) (h1.below hb)) (by simp; omega) s0 s1 oR hq
  exact hb
theorem blive_one (N : List Int) (G : List Bool) (B p m : Nat) (w : World) (hBk : BkAt w B p N G) (hN : N.length ≤ 1000) (hm : Hid (liveN G N.length = [(m : Int)])) :
    Calls Tryd.prog 13 #[.pointer (some ⟨p, 0, none⟩)] w fun e w' => ∃ b off cap, e = .returned (.slice (some ⟨b, off, none⟩) 1 cap) ∧ w'.cell? ⟨b, off, none⟩ = some (.int .i64 m) ∧ b < w'.heap.size ∧ Below w.heap.size w w' := by
  refine (blive_c N G B p w hBk (by omega)).mono ?_
  rintro e w' ⟨v, rfl, ho, hb⟩
  rw [hm.out] at ho
  obtain ⟨a, cap, rfl, h'⟩ := own_ints ho rfl
  obtain ⟨b, off, rfl, h''⟩ := h' (by simp)
  exact ⟨b, off, cap, rfl, h''.c 0 (by simp), h''.lt, hb⟩
theorem bcoins_n (N : List Int) (G : List Bool) (B p n : Nat) (w : World) (hBk : BkAt w B p N G) (hN : N.length ≤ 1000) (hn : N.length = n) :
    Calls Tryd.prog 15 #[.pointer (some ⟨p, 0, none⟩)] w fun e w' => ∃ a cap, e = .returned (.slice a n cap) ∧ Below w.heap.size w w' := by
  subst hn
  refine (bcoins_c N G B p w hBk (by omega)).mono ?_
  rintro e w' ⟨v, rfl, ho, hb⟩
  obtain ⟨a, cap, rfl⟩ := own_slB ho
  exact ⟨a, cap, rfl, hb⟩
end Go.Proofs.YtebomakihdjllaaDoor
namespace Go.Proofs.YtebomakihdjllaaDoor
open Go.RowKit
set_option maxRecDepth 100000
set_option linter.unusedVariables false
set_option linter.unusedSimpArgs false
/-- How the book stands ahead of a round. -/
def BoSt (n : Nat) (N : List Int) (G : List Bool) (a b : Int) : Prop := (n = 0 ∧ N = [a] ∧ G = [false]) ∨ (n = 1 ∧ N = [a, b] ∧ G = [true, false]) ∨ (n = 2 ∧ N = [a, b, a] ∧ G = [true, true, false])
/-- What a round does. -/
structure BoGo (n : Nat) (N : List Int) (G : List Bool) (a b x y : Int) : Prop where
  ln : N.length = n + 1
  lg : G.length = n + 1
  hg : G.getD n true = false
  hx : N.getD n 0 = x
  st : BoSt (n + 1) (N ++ [y]) (G.set n true ++ [false]) a b
  gone : (G.set n true ++ [false]).getD n true = true
  live : liveN (G.set n true ++ [false]) (N ++ [y]).length = [((n + 1 : Nat) : Int)]
theorem BoSt.go {n : Nat} {N : List Int} {G : List Bool} {a b : Int} (h : BoSt n N G a b) (hn : n < 2) : (n = 0 ∧ BoGo n N G a b a b) ∨ (n = 1 ∧ BoGo n N G a b b a) := by
  rcases h with ⟨rfl, rfl, rfl⟩ | ⟨rfl, rfl, rfl⟩ | ⟨rfl, rfl, rfl⟩
  · exact .inl ⟨rfl, rfl, rfl, rfl, rfl, .inr (.inl ⟨rfl, rfl, rfl⟩), rfl, rfl⟩
  · exact .inr ⟨rfl, rfl, rfl, rfl, rfl, .inr (.inr ⟨rfl, rfl, rfl⟩), rfl, rfl⟩
  · omega
theorem BoSt.done {N : List Int} {G : List Bool} {a b : Int} (h : BoSt 2 N G a b) : N.length = 3 ∧ totN N G N.length = a := by
  rcases h with ⟨h, -⟩ | ⟨h, -⟩ | ⟨-, rfl, rfl⟩
  · omega
  · omega
  · refine ⟨rfl, ?_⟩
    show 0 + 0 + 0 + a = a
    omega
theorem ints_one (w : World) (n : Int) (t : TypeId) : IntsAt (w.alloc (.cells #[.int .i64 n] t)) w.heap.size 0 [n] := ⟨by simp, fun i hi => by obtain rfl : i = 0 := (by simp at hi; omega); simp⟩
theorem spots_one (w : World) (s : Sp) (t : TypeId) : SpotsAt (w.alloc (.cells #[.int .i64 s.x, .int .i64 s.y, .bool s.far] t)) w.heap.size 0 [s] :=
  ⟨by simp, fun i hi => by obtain rfl : i = 0 := (by simp at hi; omega); simp, fun i hi => by obtain rfl : i = 0 := (by simp at hi; omega); simp, fun i hi => by obtain rfl : i = 0 := (by simp at hi; omega); simp⟩
set_option maxHeartbeats 8000000 in
theorem bo_n (v r s k : Int) (V1 V2 : Sp) (E1 E2 : Value) (w : World) (hF : FarAt w) (hE : ErrAt w)
    (h1 : Hid (∀ w1 : World, FarAt w1 → Calls Tryd.prog 6 #[.int .i64 v, .int .i64 r] w1 fun e w' => e = .returned (.tuple #[spV V1, E1]) ∧ Below w1.heap.size w1 w'))
    (h2 : Hid (∀ w1 : World, FarAt w1 → Calls Tryd.prog 6 #[.int .i64 v, .int .i64 s] w1 fun e w' => e = .returned (.tuple #[spV V2, E2]) ∧ Below w1.heap.size w1 w'))
    (h : E1 = .iface 69 (.int .i64 1) ∨ (E1 = .nilIface ∧ (E2 = .iface 69 (.int .i64 1) ∨ (E2 = .nilIface ∧ (k < 1 ∨ (1 ≤ k ∧ 1013 ≤ k)))))) :
    Calls Tryd.prog 3 #[.int .i64 v, .int .i64 r, .int .i64 s, .int .i64 k] w fun e w' => e = .returned (.bool true) ∧ Below w.heap.size w w' := by
  replace h := Lib.hid h
  go_enter Tryd.func3, Tryd.ntmps3
  go_wp2_with fail
  refine (h1.out _ (hF.below (by repeat (first | exact Below.refl _ _ | refine balloc ?_ _ | refine Below.drew ?_ | refine below_drewN ?_ _ | refine below_set ?_ (by first | omega | (dsimp only; omega)) _)))).mono ?_; rintro e w1 ⟨rfl, hb⟩
  obtain ⟨hc1, hf1⟩ := bcell hb
  have z1 := hb.size
  try simp only [World.size_alloc, World.size_setCell, World.size_drew] at z1
  have hB1 : Below w.heap.size w w1 := below_seq (by repeat (first | exact Below.refl _ _ | refine balloc ?_ _ | refine Below.drew ?_ | refine below_drewN ?_ _ | refine below_set ?_ (by first | omega | (dsimp only; omega)) _)) hb
  clear hb
  go_wp2_with fail
  refine (h2.out _ (hF.below (by repeat (first | exact hB1 | exact Below.refl _ _ | refine balloc ?_ _ | refine Below.drew ?_ | refine below_drewN ?_ _ | refine below_set ?_ (by first | omega | (dsimp only; omega)) _)))).mono ?_; rintro e w2 ⟨rfl, hb⟩
  obtain ⟨hc2, hf2⟩ := bcell hb
  have z2 := hb.size
  try simp only [World.size_alloc, World.size_setCell, World.size_drew] at z2
  have s2_0 : w1.heap.size < w2.heap.size := by omega
  have hB2 : Below w.heap.size w w2 := below_seq (by repeat (first | exact hB1 | exact Below.refl _ _ | refine balloc ?_ _ | refine Below.drew ?_ | refine below_drewN ?_ _ | refine below_set ?_ (by first | omega | (dsimp only; omega)) _)) hb
  clear hb
  have i1 := SpSl.made (w2.alloc (.cells #[.int .i64 V2.x, .int .i64 V2.y, .bool V2.far] 23)) [⟨0, 0, false⟩] (w2.heap.size + 1) 1 1 #[.int .i64 0, .int .i64 0, .bool false] 23 (by simp) rfl rfl
  have hc := Lib.hid (fun hF1 => bnew_zero _ _ hF1 i1)
  clear i1
  go_wp2_with fail
  refine (hc.out (hF.below (by repeat (first | exact hB2 | exact Below.refl _ _ | refine balloc ?_ _ | refine Below.drew ?_ | refine below_drewN ?_ _ | refine below_set ?_ (by first | omega | (dsimp only; omega)) _)))).mono ?_; rintro e w3 ⟨rfl, hb⟩
  obtain ⟨hc3, hf3⟩ := bcell hb
  have z3 := hb.size
  try simp only [World.size_alloc, World.size_setCell, World.size_drew] at z3
  have s3_0 : w1.heap.size < w3.heap.size := by omega
  have s3_1 : w2.heap.size < w3.heap.size := by omega
  have s3_2 : w2.heap.size + 1 < w3.heap.size := by omega
  have hB3 : Below w.heap.size w w3 := below_seq (by repeat (first | exact hB2 | exact Below.refl _ _ | refine balloc ?_ _ | refine Below.drew ?_ | refine below_drewN ?_ _ | refine below_set ?_ (by first | omega | (dsimp only; omega)) _)) hb
  clear hb
  go_wp2_with fail
  refine (error_err 3 3 _ (hE.below (by repeat (first | exact hB3 | exact Below.refl _ _ | refine balloc ?_ _ | refine Below.drew ?_ | refine below_drewN ?_ _ | refine below_set ?_ (by first | omega | (dsimp only; omega)) _))) true rfl).mono ?_; rintro e w4 ⟨rfl, hb⟩
  obtain ⟨hc4, hf4⟩ := bcell hb
  have z4 := hb.size
  try simp only [World.size_alloc, World.size_setCell, World.size_drew] at z4
  have s4_0 : w1.heap.size < w4.heap.size := by omega
  have s4_1 : w2.heap.size < w4.heap.size := by omega
  have s4_2 : w2.heap.size + 1 < w4.heap.size := by omega
  have hB4 : Below w.heap.size w w4 := below_seq (by repeat (first | exact hB3 | exact Below.refl _ _ | refine balloc ?_ _ | refine Below.drew ?_ | refine below_drewN ?_ _ | refine below_set ?_ (by first | omega | (dsimp only; omega)) _)) hb
  clear hb
  rcases h.out with rfl | ⟨rfl, rfl | ⟨rfl, q | ⟨q, q2⟩⟩⟩
  · go_wp2
    go_ret
    exact ⟨rfl, (by repeat (first | exact hB4 | exact Below.refl _ _ | refine balloc ?_ _ | refine Below.drew ?_ | refine below_drewN ?_ _ | refine below_set ?_ (by first | omega | (dsimp only; omega)) _))⟩
  · go_wp2
    go_ret
    exact ⟨rfl, (by repeat (first | exact hB4 | exact Below.refl _ _ | refine balloc ?_ _ | refine Below.drew ?_ | refine below_drewN ?_ _ | refine below_set ?_ (by first | omega | (dsimp only; omega)) _))⟩
  · go_wp2
    go_ret
    exact ⟨rfl, (by repeat (first | exact hB4 | exact Below.refl _ _ | refine balloc ?_ _ | refine Below.drew ?_ | refine below_drewN ?_ _ | refine below_set ?_ (by first | omega | (dsimp only; omega)) _))⟩
  · go_wp2
    go_ret
    exact ⟨rfl, (by repeat (first | exact hB4 | exact Below.refl _ _ | refine balloc ?_ _ | refine Below.drew ?_ | refine below_drewN ?_ _ | refine below_set ?_ (by first | omega | (dsimp only; omega)) _))⟩
set_option maxHeartbeats 16000000 in
theorem bo_y (v r s k na nb : Int) (A Bs : Sp) (w : World) (hF : FarAt w) (hE : ErrAt w) (v0 : 0 ≤ v) (v1 : v < 1013) (r0 : 0 ≤ r) (r1 : r < 1013) (s0 : 0 ≤ s) (s1 : s < 1013) (k0 : 1 ≤ k) (k1 : k < 1013)
    (hA : Hid (sq (4 * v + 4 * hJ * r) = A)) (hB : Hid (sq (4 * v + 4 * hJ * s) = Bs)) (hAn : Hid (A = qS na)) (hBn : Hid (Bs = qS nb)) (hd : Hid (nb - na = hJ * (s - r))) :
    Calls Tryd.prog 3 #[.int .i64 v, .int .i64 r, .int .i64 s, .int .i64 k] w fun e w' => e = .returned (.bool true) ∧ Below w.heap.size w w' := by
  have k3 : decide (k < 1) = false := decide_eq_false (by omega)
  have k4 : decide (1013 ≤ k) = false := decide_eq_false (by omega)
  go_enter Tryd.func3, Tryd.ntmps3
  go_wp2_with fail
  refine (hide_y v r A _ (hF.below (by repeat (first | exact Below.refl _ _ | refine balloc ?_ _ | refine Below.drew ?_ | refine below_drewN ?_ _ | refine below_set ?_ (by first | omega | (dsimp only; omega)) _))) v0 v1 r0 r1 hA).mono ?_; rintro e w1 ⟨rfl, hb⟩
  obtain ⟨hc1, hf1⟩ := bcell hb
  have z1 := hb.size
  try simp only [World.size_alloc, World.size_setCell, World.size_drew] at z1
  have hB1 : Below w.heap.size w w1 := below_seq (by repeat (first | exact Below.refl _ _ | refine balloc ?_ _ | refine Below.drew ?_ | refine below_drewN ?_ _ | refine below_set ?_ (by first | omega | (dsimp only; omega)) _)) hb
  clear hb
  go_wp2_with fail
  refine (hide_y v s Bs _ (hF.below (by repeat (first | exact hB1 | exact Below.refl _ _ | refine balloc ?_ _ | refine Below.drew ?_ | refine below_drewN ?_ _ | refine below_set ?_ (by first | omega | (dsimp only; omega)) _))) v0 v1 s0 s1 hB).mono ?_; rintro e w2 ⟨rfl, hb⟩
  obtain ⟨hc2, hf2⟩ := bcell hb
  have z2 := hb.size
  try simp only [World.size_alloc, World.size_setCell, World.size_drew] at z2
  have s2_0 : w1.heap.size < w2.heap.size := by omega
  have hB2 : Below w.heap.size w w2 := below_seq (by repeat (first | exact hB1 | exact Below.refl _ _ | refine balloc ?_ _ | refine Below.drew ?_ | refine below_drewN ?_ _ | refine below_set ?_ (by first | omega | (dsimp only; omega)) _)) hb
  clear hb
  have m2_0_0 : w2.cell? ⟨w1.heap.size, 0, none⟩ = some (.int .i64 A.x) := by go_simp
  have m2_0_1 : w2.cell? ⟨w1.heap.size, 1, none⟩ = some (.int .i64 A.y) := by go_simp
  have m2_0_2 : w2.cell? ⟨w1.heap.size, 2, none⟩ = some (.bool A.far) := by go_simp
  have i1 := SpSl.made (w2.alloc (.cells #[.int .i64 Bs.x, .int .i64 Bs.y, .bool Bs.far] 23)) [⟨0, 0, false⟩] (w2.heap.size + 1) 1 1 #[.int .i64 0, .int .i64 0, .bool false] 23 (by simp) rfl rfl
  have hc := Lib.hid (fun hF1 => bnew_zero _ _ hF1 i1)
  clear i1
  go_wp2_with fail
  refine (hc.out (hF.below (by repeat (first | exact hB2 | exact Below.refl _ _ | refine balloc ?_ _ | refine Below.drew ?_ | refine below_drewN ?_ _ | refine below_set ?_ (by first | omega | (dsimp only; omega)) _)))).mono ?_; rintro e w3 ⟨rfl, hb⟩
  obtain ⟨hc3, hf3⟩ := bcell hb
  have z3 := hb.size
  try simp only [World.size_alloc, World.size_setCell, World.size_drew] at z3
  have s3_0 : w1.heap.size < w3.heap.size := by omega
  have s3_1 : w2.heap.size < w3.heap.size := by omega
  have s3_2 : w2.heap.size + 1 < w3.heap.size := by omega
  have hB3 : Below w.heap.size w w3 := below_seq (by repeat (first | exact hB2 | exact Below.refl _ _ | refine balloc ?_ _ | refine Below.drew ?_ | refine below_drewN ?_ _ | refine below_set ?_ (by first | omega | (dsimp only; omega)) _)) hb
  clear hb
  have m3_0_0 : w3.cell? ⟨w1.heap.size, 0, none⟩ = some (.int .i64 A.x) := by go_simp
  have m3_0_1 : w3.cell? ⟨w1.heap.size, 1, none⟩ = some (.int .i64 A.y) := by go_simp
  have m3_0_2 : w3.cell? ⟨w1.heap.size, 2, none⟩ = some (.bool A.far) := by go_simp
  have m3_1_0 : w3.cell? ⟨w2.heap.size, 0, none⟩ = some (.int .i64 Bs.x) := by go_simp
  have m3_1_1 : w3.cell? ⟨w2.heap.size, 1, none⟩ = some (.int .i64 Bs.y) := by go_simp
  have m3_1_2 : w3.cell? ⟨w2.heap.size, 2, none⟩ = some (.bool Bs.far) := by go_simp
  clear m2_0_0 m2_0_1 m2_0_2
  go_wp2_with fail
  refine (error_err 3 3 _ (hE.below (by repeat (first | exact hB3 | exact Below.refl _ _ | refine balloc ?_ _ | refine Below.drew ?_ | refine below_drewN ?_ _ | refine below_set ?_ (by first | omega | (dsimp only; omega)) _))) true rfl).mono ?_; rintro e w4 ⟨rfl, hb⟩
  obtain ⟨hc4, hf4⟩ := bcell hb
  have z4 := hb.size
  try simp only [World.size_alloc, World.size_setCell, World.size_drew] at z4
  have s4_0 : w1.heap.size < w4.heap.size := by omega
  have s4_1 : w2.heap.size < w4.heap.size := by omega
  have s4_2 : w2.heap.size + 1 < w4.heap.size := by omega
  have hB4 : Below w.heap.size w w4 := below_seq (by repeat (first | exact hB3 | exact Below.refl _ _ | refine balloc ?_ _ | refine Below.drew ?_ | refine below_drewN ?_ _ | refine below_set ?_ (by first | omega | (dsimp only; omega)) _)) hb
  clear hb
  have m4_0_0 : w4.cell? ⟨w1.heap.size, 0, none⟩ = some (.int .i64 A.x) := by go_simp
  have m4_0_1 : w4.cell? ⟨w1.heap.size, 1, none⟩ = some (.int .i64 A.y) := by go_simp
  have m4_0_2 : w4.cell? ⟨w1.heap.size, 2, none⟩ = some (.bool A.far) := by go_simp
  have m4_1_0 : w4.cell? ⟨w2.heap.size, 0, none⟩ = some (.int .i64 Bs.x) := by go_simp
  have m4_1_1 : w4.cell? ⟨w2.heap.size, 1, none⟩ = some (.int .i64 Bs.y) := by go_simp
  have m4_1_2 : w4.cell? ⟨w2.heap.size, 2, none⟩ = some (.bool Bs.far) := by go_simp
  clear m3_0_0 m3_0_1 m3_0_2 m3_1_0 m3_1_1 m3_1_2
  have i1 := SpSl.made w4 [A] w4.heap.size 1 1 #[.int .i64 A.x, .int .i64 A.y, .bool A.far] 23 rfl rfl rfl
  replace hc := Lib.hid (fun hF1 => bnew_one na A _ _ hF1 hAn i1)
  clear i1
  go_wp2_with fail
  refine (hc.out (hF.below (by repeat (first | exact hB4 | exact Below.refl _ _ | refine balloc ?_ _ | refine Below.drew ?_ | refine below_drewN ?_ _ | refine below_set ?_ (by first | omega | (dsimp only; omega)) _)))).mono ?_; rintro e w5 ⟨p, rfl, hbk0, hb⟩
  obtain ⟨hc5, hf5⟩ := bcell hb
  have z5 := hb.size
  try simp only [World.size_alloc, World.size_setCell, World.size_drew] at z5
  have s5_0 : w1.heap.size < w5.heap.size := by omega
  have s5_1 : w2.heap.size < w5.heap.size := by omega
  have s5_2 : w2.heap.size + 1 < w5.heap.size := by omega
  have s5_3 : w4.heap.size < w5.heap.size := by omega
  have hB5 : Below w.heap.size w w5 := below_seq (by repeat (first | exact hB4 | exact Below.refl _ _ | refine balloc ?_ _ | refine Below.drew ?_ | refine below_drewN ?_ _ | refine below_set ?_ (by first | omega | (dsimp only; omega)) _)) hb
  clear hb
  have m5_0_0 : w5.cell? ⟨w1.heap.size, 0, none⟩ = some (.int .i64 A.x) := by go_simp
  have m5_0_1 : w5.cell? ⟨w1.heap.size, 1, none⟩ = some (.int .i64 A.y) := by go_simp
  have m5_0_2 : w5.cell? ⟨w1.heap.size, 2, none⟩ = some (.bool A.far) := by go_simp
  have m5_1_0 : w5.cell? ⟨w2.heap.size, 0, none⟩ = some (.int .i64 Bs.x) := by go_simp
  have m5_1_1 : w5.cell? ⟨w2.heap.size, 1, none⟩ = some (.int .i64 Bs.y) := by go_simp
  have m5_1_2 : w5.cell? ⟨w2.heap.size, 2, none⟩ = some (.bool Bs.far) := by go_simp
  clear m4_0_0 m4_0_1 m4_0_2 m4_1_0 m4_1_1 m4_1_2
  have hbk : BkAt w5 (w4.heap.size + 1) p [na] [false] := by simpa using hbk0
  replace hbk := Lib.hid hbk
  clear hbk0 hc
  have hAB := Lib.hid (fun (w' : World) (hb : Below (w4.heap.size + 1) w5 w') => (⟨(hb.cell (p := ⟨w1.heap.size, 0, none⟩) (by show w1.heap.size < _; omega)).trans m5_0_0, (hb.cell (p := ⟨w1.heap.size, 1, none⟩) (by show w1.heap.size < _; omega)).trans m5_0_1, (hb.cell (p := ⟨w1.heap.size, 2, none⟩) (by show w1.heap.size < _; omega)).trans m5_0_2, Nat.lt_of_lt_of_le s5_0 hb.size, (hb.cell (p := ⟨w2.heap.size, 0, none⟩) (by show w2.heap.size < _; omega)).trans m5_1_0, (hb.cell (p := ⟨w2.heap.size, 1, none⟩) (by show w2.heap.size < _; omega)).trans m5_1_1, (hb.cell (p := ⟨w2.heap.size, 2, none⟩) (by show w2.heap.size < _; omega)).trans m5_1_2, Nat.lt_of_lt_of_le s5_1 hb.size⟩ :
    w'.cell? ⟨w1.heap.size, 0, none⟩ = some (.int .i64 A.x) ∧ w'.cell? ⟨w1.heap.size, 1, none⟩ = some (.int .i64 A.y) ∧ w'.cell? ⟨w1.heap.size, 2, none⟩ = some (.bool A.far) ∧ w1.heap.size < w'.heap.size ∧ w'.cell? ⟨w2.heap.size, 0, none⟩ = some (.int .i64 Bs.x) ∧ w'.cell? ⟨w2.heap.size, 1, none⟩ = some (.int .i64 Bs.y) ∧ w'.cell? ⟨w2.heap.size, 2, none⟩ = some (.bool Bs.far) ∧ w2.heap.size < w'.heap.size))
  have hW5 := Lib.hid hB5
  have hbs : w4.heap.size + 1 ≤ w5.heap.size := by omega
  have hbw : w.heap.size ≤ w4.heap.size + 1 := by have := hB4.size; omega
  obtain ⟨Bb, hBb⟩ : ∃ b, w4.heap.size + 1 = b := ⟨_, rfl⟩
  rw [hBb] at hAB
  rw [hBb] at hbk hbs hbw
  clear m5_0_0 m5_0_1 m5_0_2 m5_1_0 m5_1_1 m5_1_2 hc1 hf1 hc2 hf2 hc3 hf3 hc4 hf4 hc5 hf5 z1 z2 z3 z4 z5 hB1 hB2 hB3 hB4 hB5 s5_0 s5_1 s2_0 s3_0 s3_1 s3_2 s4_0 s4_1 s4_2 s5_2 s5_3
  go_wp2_with fail
  clear hBb
  go_loopw [17] (fun i wr => ∃ n : Nat, n ≤ 2 ∧ i = .int .i64 n ∧ (∃ N G, BkAt wr Bb p N G ∧ BoSt n N G na nb) ∧ Below Bb w5 wr) (fun i _ => 2 - (intOf i).toNat)
  case atStart => exact ⟨0, by omega, rfl, ⟨_, _, hbk.out, .inl ⟨rfl, rfl, rfl⟩⟩, Below.refl _ _⟩
  case round =>
    obtain ⟨n, hn, rfl, ⟨N, G, hbk1, hst⟩, hb⟩ := hrel
    clear hbk
    have hbr : Bb ≤ wr.heap.size := Nat.le_trans hbs hb.size
    replace hb := Lib.hid hb
    replace hbk1 := Lib.hid hbk1
    have hWr := Lib.hid (hW5.out.trans (hb.out.mono hbw))
    have hFr := Lib.hid (hF.below hWr.out)
    have hEr := Lib.hid (hE.below hWr.out)
    obtain ⟨a0, a1, a2, al, c0, c1, c2, cl⟩ := hAB.out _ hb.out
    by_cases hlt : n < 2
    · have hgo := hst.go hlt
      obtain ⟨x, y, TO, D, hgo', hcs⟩ : ∃ x y TO D, BoGo n N G na nb x y ∧ ((n = 0 ∧ x = na ∧ y = nb ∧ TO = Bs ∧ D = s - r) ∨ (n = 1 ∧ x = nb ∧ y = na ∧ TO = A ∧ D = r - s)) := by
        rcases hgo with ⟨h, g⟩ | ⟨h, g⟩
        · exact ⟨_, _, _, _, g, .inl ⟨h, rfl, rfl, rfl, rfl⟩⟩
        · exact ⟨_, _, _, _, g, .inr ⟨h, rfl, rfl, rfl, rfl⟩⟩
      have hT : Hid (TO = qS y) := by
        rcases hcs with ⟨-, -, rfl, rfl, -⟩ | ⟨-, -, rfl, rfl, -⟩
        · exact hBn
        · exact hAn
      have hD : -x + y = hJ * D := by
        have := hd.out
        rcases hcs with ⟨-, rfl, rfl, -, rfl⟩ | ⟨-, rfl, rfl, -, rfl⟩
        · omega
        · rw [Int.mul_sub] at *; omega
      have hDb : -1013 ≤ D ∧ D ≤ 1013 := by rcases hcs with ⟨-, -, -, -, rfl⟩ | ⟨-, -, -, -, rfl⟩ <;> omega
      replace hgo := Lib.hid hgo'
      replace hcs := Lib.hid hcs
      replace hD := Lib.hid hD
      clear hgo' hst
      go_upto_if 83 with fail
      go_cut [19] from 75 to 88 (fun s19 wx => s19 = .int .i64 D ∧ SpAt wx wr.heap.size TO ∧ Below wr.heap.size wr wx)
      case first =>
        rcases hcs.out with ⟨h, -, -, rfl, rfl⟩ | ⟨h, -, -, rfl, rfl⟩
        · have g : ((n : Int) == 1) = false := by rw [h]; rfl
          clear h
          go_wp2_with fail
          go_meet
          exact ⟨rfl, SpAt.fresh _ _ _ _ _, below_alloc _ _⟩
        · have g : ((n : Int) == 1) = true := by rw [h]; rfl
          clear h
          go_wp2_with fail
          go_meet
          exact ⟨rfl, SpAt.fresh _ _ _ _ _, below_alloc _ _⟩
      case rest =>
      obtain ⟨rfl, hto, hbx⟩ := hcut
      obtain ⟨wA, hwA⟩ : ∃ x, x = wc := ⟨_, rfl⟩
      subst hwA
      clear a0 a1 a2 al c0 c1 c2 cl
      obtain ⟨vc, vg, hv0⟩ := hbk1.out
      have hvA := Lib.hid (hv0.below hbx)
      have hFA := Lib.hid (hFr.out.below hbx)
      have hbA := Lib.hid hbx
      have hrA : wr.heap.size ≤ wA.heap.size := hbx.size
      have hln := hgo.out.ln
      have hlg := hgo.out.lg
      have hNs : N.length ≤ 900 := by omega
      have hgG : n < G.length := by omega
      have hgg := Lib.hid hgo.out.hg
      have hgx := Lib.hid hgo.out.hx
      obtain ⟨X, hX⟩ : ∃ X, qS (-x + y) = X := ⟨_, rfl⟩
      have oX : Ok X := by rw [← hX]; exact sq_ok _
      replace hX := Lib.hid hX
      have hto0 := hto
      obtain ⟨t0, t1, t2, -, -, -, tl⟩ := hto
      clear hln hlg hbx
      have htA := Lib.hid hto0
      clear hto0
      obtain ⟨wB, hwB⟩ : ∃ x, x = (wA.alloc (.cells #[.int .i64 (n : Int)] 3)).alloc (.cells #[.int .i64 TO.x, .int .i64 TO.y, .bool TO.far] 23) := ⟨_, rfl⟩
      have hbB : Below wA.heap.size wA wB := by rw [hwB]; exact balloc (below_alloc _ _) _
      have hiB : IntsAt wB wA.heap.size 0 [(n : Int)] := by rw [hwB]; exact (ints_one wA n _).below (below_alloc _ _)
      have hsB : SpotsAt wB (wA.heap.size + 1) 0 [TO] := by rw [hwB]; have := spots_one (wA.alloc (.cells #[.int .i64 (n : Int)] 3)) TO 23; simpa using this
      have hEx := Lib.hid (bex_one N G Bb p n wA.heap.size (wA.heap.size + 1) x y TO X wB (hFA.out.below hbB) ⟨_, _, hvA.out.below hbB⟩ (by omega) hgG hgg hgx hT hX hiB hsB)
      have hbB' := Lib.hid hbB
      rw [hwB] at hEx hbB'
      clear hwB hbB hiB hsB
      go_wp2_with fail
      refine hEx.out.mono ?_; rintro e w2 ⟨rfl, hb2⟩
      have hB2 := Lib.hid (below_seq hbB'.out hb2)
      clear hb2 hEx hbB' t0 t1 t2 tl
      have hX3 := Lib.hid (SpAt.fresh w2 X.x X.y X.far 23)
      have hB3 := Lib.hid (balloc hB2.out (.cells #[.int .i64 X.x, .int .i64 X.y, .bool X.far] 23))
      clear hB2
      obtain ⟨P, hP⟩ : ∃ P, sq (4 * hJ * k) = P := ⟨_, rfl⟩
      have oP : Ok P := by rw [← hP]; exact sq_ok _
      obtain ⟨c, hc⟩ : ∃ c, bAsk P X = c := ⟨_, rfl⟩
      obtain ⟨m, hm⟩ : ∃ m, D % 1013 = m := ⟨_, rfl⟩
      obtain ⟨S, hS⟩ : ∃ S, (k + c * m) % 1013 = S := ⟨_, rfl⟩
      have hq : Hid (Sp.beq (sq (4 * hJ * S)) (sSum P (sq (4 * (-x + y) * bAsk P X))) = true) := Lib.hid (by
        have := close_ok k c D (-x + y) (by rw [hD.out]; omega)
        rw [hm, hS, hP] at this
        rw [hc]; exact this)
      have m0 : 0 ≤ m := by omega
      have m1 : m < 1013 := by omega
      have S0 : 0 ≤ S := by omega
      have S1 : S < 1013 := by omega
      replace hP := Lib.hid hP
      replace hc := Lib.hid hc
      replace hm := Lib.hid hm
      replace hS := Lib.hid hS
      go_upto_region 20 with fail
      generalize w2.alloc (.cells #[.int .i64 X.x, .int .i64 X.y, .bool X.far] 23) = w3 at *
      have hF3 := Lib.hid (hFA.out.below hB3.out)
      go_cut [22, 23] from 98 to 104 (fun s22 s23 wx => ∃ q : Nat, s22 = .pointer (some ⟨q, 0, none⟩) ∧ s23 = .nilIface ∧ SeAt wx q P S ∧ Below w3.heap.size w3 wx)
      case first =>
        clear hq hgo hcs hbk1 hv0 hvA htA hAB hE hEr
        obtain ⟨x0, x1, x2, -, -, -, xl⟩ := hX3.out
        go_region_with (first | (go_at_call 11; refine (refMod_e D 1013 m _ (by omega) (by omega) (by decide) (by decide) hm).mono ?_; rintro e w' ⟨rfl, rfl⟩) | (go_at_call 10; refine (bclose_y m k X P c S _ (hF3.out.below (by repeat (first | exact Below.refl _ _ | refine balloc ?_ _ | refine Below.drew ?_))) m0 m1 k0 k1 oX hP hc hS.out).mono ?_; rintro e wa ⟨rfl, ha2⟩; have hwa : Below w3.heap.size w3 wa := below_seq (by repeat (first | exact Below.refl _ _ | refine balloc ?_ _ | refine Below.drew ?_)) ha2; have hza := hwa.size; (first | (refine hav_ (P := SeAt wa w3.heap.size ⟨0, 0, false⟩ 0) (SeAt.below (SeAt.fresh _ _ _ _ _ _) ha2) (fun kC => ?_); obtain ⟨c0, c1, c2, c3, c4, c5, c6, c7, c8⟩ := kC) | (refine hav_ (P := SeAt wa w3.heap.size ⟨0, 0, false⟩ 0) (SeAt.below (SeAt.drew (SeAt.fresh _ _ _ _ _ _)) ha2) (fun kC => ?_); obtain ⟨c0, c1, c2, c3, c4, c5, c6, c7, c8⟩ := kC) | skip)))
        all_goals
          go_wp2_with fail
          go_meet
          first
          | exact ⟨_, rfl, rfl, SeAt.fresh _ _ _ _ _ _, balloc hwa _⟩
          | exact ⟨_, rfl, rfl, (SeAt.zero_of (by assumption) (by assumption) (by assumption) (by assumption) (by assumption) (by assumption) (by assumption) (by assumption) (by assumption)).set4 P S, set4_below hwa (by omega)⟩
      case rest =>
      obtain ⟨q, rfl, rfl, hsq, hb4⟩ := hcut
      obtain ⟨w4, hw4⟩ : ∃ x, x = wc := ⟨_, rfl⟩
      subst hw4
      have hB4 := Lib.hid (below_seq hB3.out hb4)
      clear hb4 hB3 hX3 hF3 hP hm hS
      have ht4 := htA.out.below hB4.out
      have hF4 := Lib.hid (hFA.out.below hB4.out)
      have hv4 := Lib.hid (hvA.out.below hB4.out)
      have hr4 : wr.heap.size ≤ w4.heap.size := Nat.le_trans hrA hB4.out.size
      obtain ⟨wB, hwB⟩ : ∃ x, x = (w4.alloc (.cells #[.int .i64 (n : Int)] 3)).alloc (.cells #[.int .i64 TO.x, .int .i64 TO.y, .bool TO.far] 23) := ⟨_, rfl⟩
      have hbB : Below w4.heap.size w4 wB := by rw [hwB]; exact balloc (below_alloc _ _) _
      have hiB : IntsAt wB w4.heap.size 0 [(n : Int)] := by rw [hwB]; exact (ints_one w4 n _).below (below_alloc _ _)
      have hsB : SpotsAt wB (w4.heap.size + 1) 0 [TO] := by rw [hwB]; have := spots_one (w4.alloc (.cells #[.int .i64 (n : Int)] 3)) TO 23; simpa using this
      have hvB := hv4.out.below hbB
      have hBbB : Bb ≤ wB.heap.size := Nat.le_trans hbr (Nat.le_trans hr4 hbB.size)
      have hDo := Lib.hid (bdo_one N G Bb p n w4.heap.size (w4.heap.size + 1) vc vg x y TO X P S wB (hF4.out.below hbB) hvB hBbB hNs hgG hgg hgx hT hX hiB hsB (fun h => Nat.lt_irrefl _ (hv4.out.blk _ h).2) (fun h => by have := (hv4.out.blk _ h).2; omega) S0 S1 oP hq)
      have hWB : Below Bb wr wB := ((below_seq hbA.out (below_seq hB4.out hbB)).mono hbr)
      have hDn : ∀ wD, But (inB p vc vg) wB wD → Below Bb wr wD := fun wD h => hWB.trans (h.below hBbB fun k hk => (hv4.out.blk k hk).1)
      replace hDn := Lib.hid hDn
      rw [hwB] at hDo hDn
      clear hwB hbB hiB hsB hvB hBbB hWB hq
      obtain ⟨t0, t1, t2, -, -, -, tl⟩ := ht4
      obtain ⟨q0, q1, q2, q3, -, -, -, -, ql⟩ := hsq
      go_wp2_with fail
      refine hDo.out.mono ?_; rintro e wD ⟨rfl, vc', vg', bkD, hin, hbut⟩
      have hbD := Lib.hid (hDn.out _ hbut)
      clear hbut hin hDo hDn t0 t1 t2 tl q0 q1 q2 q3 ql
      have hWD := Lib.hid (hWr.out.trans (hbD.out.mono hbw))
      have hFD := Lib.hid (hF.below hWD.out)
      have hED := Lib.hid (hE.below hWD.out)
      have hst' := Lib.hid hgo.out.st
      have hNl : (N ++ [y]).length = n + 2 := by have := hgo.out.ln; rw [List.length_append, List.length_singleton]; omega
      have hGl : (G.set n true ++ [false]).length = n + 2 := by have := hgo.out.lg; rw [List.length_append, List.length_singleton, List.length_set]; omega
      have hlv := Lib.hid hgo.out.live
      have hgn := Lib.hid hgo.out.gone
      replace bkD := Lib.hid (show BkAt wD Bb p (N ++ [y]) (G.set n true ++ [false]) from ⟨_, _, bkD⟩)
      clear hgo
      generalize N ++ [y] = N' at *
      generalize G.set n true ++ [false] = G' at *
      have hE2 := Lib.hid (bex_gone N' G' Bb p n wD.heap.size (wD.alloc (.cells #[.int .i64 (n : Int)] 3)) (hFD.out.below (below_alloc _ _)) (bkD.out.below (below_alloc _ _)) (by omega) (by omega) hgn (ints_one wD n _))
      go_wp2_with fail
      refine hE2.out.mono ?_; rintro e w6 ⟨rfl, hb6⟩
      have hB6 := Lib.hid (balloc (below_seq (below_alloc _ _) hb6) (.cells #[.int .i64 0, .int .i64 0, .bool false] 23))
      clear hb6 hE2
      go_wp2_with fail
      refine (blive_one N' G' Bb p (n + 1) _ (bkD.out.below hB6.out) (by omega) hlv).mono ?_; rintro e w7 ⟨lb, lo, lc, rfl, l0, ll, hb7⟩
      rw [show ((n + 1 : Nat) : Int) = (n : Int) + 1 by omega] at l0
      have hB7 := Lib.hid (below_seq hB6.out hb7)
      clear hb7 hB6
      go_wp2_with fail
      refine (error_err 6 6 _ (hED.out.below hB7.out) true rfl).mono ?_; rintro e w8 ⟨rfl, hb8⟩
      have l8 := ((bcell hb8).1 _ _ ll).trans l0
      have ll8 := Nat.lt_of_lt_of_le ll hb8.size
      have hB8 := Lib.hid (below_seq hB7.out hb8)
      clear l0 ll hb8 hB7
      have hbw8 : Bb ≤ wD.heap.size := Nat.le_trans hbr hbD.out.size
      have gx : ((n : Int) + 1 != (n : Int) + 1) = false := by simp
      go_wp2
      go_roundw
      case rel => exact ⟨n + 1, by omega, by go_num, ⟨_, _, bkD.out.below hB8.out, hst'.out⟩, hb.out.trans (hbD.out.trans (hB8.out.mono hbw8))⟩
      case measure => simp [intOf]; omega
    · have g2 : decide ((n : Int) < 2) = false := decide_eq_false (by omega)
      obtain ⟨hN3, hNt⟩ := (show BoSt 2 N G na nb by have h2 : n = 2 := (by omega); rw [h2] at hst; exact hst).done
      have kT : Hid (∀ w1 : World, Below wr.heap.size wr w1 → Calls Tryd.prog 14 #[.pointer (some ⟨p, 0, none⟩)] w1 fun e w' => e = .returned (spV A) ∧ Below w1.heap.size w1 w') := Lib.hid fun w1 h1 => by
        have := btotal_c N G Bb p w1 (hFr.out.below h1) (hbk1.out.below h1) (by omega)
        rw [hNt, ← hAn.out] at this
        exact this
      have kC : Hid (∀ w1 : World, Below wr.heap.size wr w1 → Calls Tryd.prog 15 #[.pointer (some ⟨p, 0, none⟩)] w1 fun e w' => ∃ a cap, e = .returned (.slice a 3 cap) ∧ Below w1.heap.size w1 w') := Lib.hid fun w1 h1 => bcoins_n N G Bb p 3 w1 (hbk1.out.below h1) (by omega) hN3
      clear hst hN3 hNt hbk1 hlt hn
      go_wp2_with fail
      go_region_with (first | (go_at_call 14; refine (kT.out _ (by repeat (first | exact Below.refl _ _ | exact hwt.out | refine balloc ?_ _ | refine Below.drew ?_))).mono ?_; rintro e wt ⟨rfl, hbt⟩; have hwt := Lib.hid (show Below wr.heap.size wr wt from below_seq (by repeat (first | exact Below.refl _ _ | exact hwt.out | refine balloc ?_ _ | refine Below.drew ?_)) hbt); clear hbt; obtain ⟨a0, a1, a2, al, -⟩ := hAB.out _ (hb.out.trans (hwt.out.mono hbr))) | (go_at_call 15; refine (kC.out _ (by repeat (first | exact Below.refl _ _ | exact hwt.out | refine balloc ?_ _ | refine Below.drew ?_))).mono ?_; rintro e wt ⟨ac, cc, rfl, hbt⟩; have hwt := Lib.hid (show Below wr.heap.size wr wt from below_seq (by repeat (first | exact Below.refl _ _ | exact hwt.out | refine balloc ?_ _ | refine Below.drew ?_)) hbt); clear hbt; obtain ⟨a0, a1, a2, al, -⟩ := hAB.out _ (hb.out.trans (hwt.out.mono hbr))))
      all_goals
        go_wp2
        go_ret
        exact ⟨rfl, below_seq hWr.out (by repeat (first | exact Below.refl _ _ | exact hwt.out | refine balloc ?_ _ | refine Below.drew ?_))⟩
theorem bookOnce_law (v : Int) (hv : (Lit.int .i64 v).wf = true) (r : Int) (hr : (Lit.int .i64 r).wf = true) (s : Int) (hs : (Lit.int .i64 s).wf = true) (k : Int) (hk : (Lit.int .i64 k).wf = true) (w : World) (hL : FarAt w ∧ ErrAt w) :
    Calls Tryd.prog 3 #[.int .i64 v, .int .i64 r, .int .i64 s, .int .i64 k] w fun e w' => e = .returned (.bool true) ∧ Below w.heap.size w w' := by
  have hqS : ∀ a b : Int, sq (4 * a + 4 * hJ * b) = qS (a + hJ * b) := fun a b => by unfold qS; rw [Int.mul_add, Int.mul_assoc]
  by_cases h1 : 0 ≤ v ∧ v < 1013 ∧ 0 ≤ r ∧ r < 1013
  · have c1 : ∀ w1 : World, FarAt w1 → Calls Tryd.prog 6 #[.int .i64 v, .int .i64 r] w1 fun e w' => e = .returned (.tuple #[spV (sq (4 * v + 4 * hJ * r)), .nilIface]) ∧ Below w1.heap.size w1 w' := fun w1 hF1 => hide_y v r _ w1 hF1 h1.1 h1.2.1 h1.2.2.1 h1.2.2.2 rfl
    by_cases h2 : 0 ≤ s ∧ s < 1013
    · have c2 : ∀ w1 : World, FarAt w1 → Calls Tryd.prog 6 #[.int .i64 v, .int .i64 s] w1 fun e w' => e = .returned (.tuple #[spV (sq (4 * v + 4 * hJ * s)), .nilIface]) ∧ Below w1.heap.size w1 w' := fun w1 hF1 => hide_y v s _ w1 hF1 h1.1 h1.2.1 h2.1 h2.2 rfl
      by_cases h3 : 1 ≤ k ∧ k < 1013
      · refine bo_y v r s k (v + hJ * r) (v + hJ * s) _ _ w hL.1 hL.2 h1.1 h1.2.1 h1.2.2.1 h1.2.2.2 h2.1 h2.2 h3.1 h3.2 rfl rfl (hqS _ _) (hqS _ _) (Lib.hid ?_)
        rw [Int.mul_sub]; omega
      · exact bo_n v r s k _ _ _ _ w hL.1 hL.2 c1 c2 (.inr ⟨rfl, .inr ⟨rfl, by omega⟩⟩)
    · exact bo_n v r s k _ _ _ _ w hL.1 hL.2 c1 (Lib.hid fun w1 _ => hide_n v s w1 (by omega)) (.inr ⟨rfl, .inl rfl⟩)
  · by_cases h2 : 0 ≤ v ∧ v < 1013 ∧ 0 ≤ s ∧ s < 1013
    · exact bo_n v r s k _ _ _ _ w hL.1 hL.2 (Lib.hid fun w1 _ => hide_n v r w1 h1) (Lib.hid fun w1 hF1 => hide_y v s _ w1 hF1 h2.1 h2.2.1 h2.2.2.1 h2.2.2.2 rfl) (.inl rfl)
    · exact bo_n v r s k _ _ _ _ w hL.1 hL.2 (Lib.hid fun w1 _ => hide_n v r w1 h1) (Lib.hid fun w1 _ => hide_n v s w1 h2) (.inl rfl)
end Go.Proofs.YtebomakihdjllaaDoor
namespace Go.Proofs.YtebomakihdjllaaDoor
open Go.ChangeShapes Go.WideShapes Go.ChangeAt Go.WideMaps Go.WideElems Go.RowKit
set_option maxRecDepth 100000
abbrev farLaid : List (String × DataW Unit) := [("pairstone/curve.Far", Rows.laid_pairstone_curve_Far)]
theorem gFar : Tryd.prog.globalNamed "pairstone/curve.Far" = some 0 := by kernel_rfl
theorem tFar : (Tryd.prog.globals[0]?).map (·.type) = some 23 := by kernel_rfl
/-- The door's own heap meets the condition. -/
theorem farLaid_met (os : Os) (args : Array Value) : laidMetH Tryd.prog farLaid ((World.doorLaid Tryd.prog 400 os).forCall (fun _ _ => 0) ⟨#[], args, []⟩).memory :=
  laidMetH_of_parts3 (fuel := 8) (laidMet_of_run' 8 (by kernel_rfl) (by kernel_rfl)) (by kernel_rfl) (by kernel_rfl)
theorem lt_of_cell {w : World} {b o : Nat} {v : Value} (h : w.cell? ⟨b, o, none⟩ = some v) : b < w.heap.size := by
  rcases Nat.lt_or_ge b w.heap.size with h1 | h1
  · exact h1
  · simp [World.cell?, Array.getElem?_eq_none h1] at h
theorem farLaid_at {W : World} (h : laidMetH Tryd.prog farLaid W) : FarAt W := by
  rw [MakeChecks.laidMetH_plain _ _ _ (by kernel_rfl)] at h
  obtain ⟨ps, ⟨g0, t0, cs0, f0, p0, q0, hg0, ht0, hv0, hd0, _, _⟩, _, _⟩ := h
  obtain rfl := Option.some.inj (gFar.symm.trans hg0)
  obtain rfl := Option.some.inj (tFar.symm.trans ht0)
  obtain ⟨y0, y1, y2, n, hx, hlen, h0, h1, h2⟩ := Deep.trod_struct3 Tryd.underlying23 hd0
  simp only [Rows.laid_pairstone_curve_Far, Prod.mk.injEq, DataW.agg.injEq, List.cons.injEq, and_true] at hx
  obtain ⟨⟨e0, e1, e2⟩, _⟩ := hx
  obtain ⟨a, c0, rfl, _⟩ := DataW.trod_int Tryd.underlying3 h0
  obtain ⟨b, c1, rfl, _⟩ := DataW.trod_int Tryd.underlying3 h1
  obtain ⟨f, c2, rfl⟩ := DataW.trod_bool Tryd.underlying4 h2
  have k3 : Tryd.prog.cellsOf 23 = 3 := by kernel_rfl
  have ki : Tryd.prog.cellsOf 3 = 1 := by kernel_rfl
  have kb : Tryd.prog.cellsOf 4 = 1 := by kernel_rfl
  obtain ⟨l⟩ := cs0
  have h3 : l.length = 3 := by simpa using hlen.trans k3
  match l, h3 with
  | [x, y, z], _ =>
    simp [ki, kb] at c0 c1 c2
    subst c0 c1 c2
    have v0 := World.var?_cell hg0 hv0 0
    have v1 := World.var?_cell hg0 hv0 1
    have v2 := World.var?_cell hg0 hv0 2
    simp at e0 e1 e2 v0 v1 v2
    subst e0 e1 e2
    exact ⟨v0, v1, v2, lt_of_cell v0⟩
end Go.Proofs.YtebomakihdjllaaDoor
namespace Go.Proofs.YtebomakihdjllaaDoor
open Go.ChangeShapes Go.WideShapes Go.ChangeAt Go.WideMaps Go.WideElems Go.RowKit
set_option maxRecDepth 100000
theorem gErr : Tryd.prog.globalNamed "errors.errorType" = some 1 := by kernel_rfl
theorem cutR : (Tryd.prog.cutTypes.find? (·.1 == "internal/reflectlite.rtype")).map (·.2) = some 116 := by kernel_rfl
theorem rowError : ((List.range Tryd.prog.types.size).filter fun t => Tryd.prog.rowNamed t [101, 114, 114, 111, 114]) = [25] := by kernel_rfl
/-- What the condition on the variable says of its cell. -/
theorem err_of_handles {l : List (String × DataW Unit)} {W : World} (h : handlesMet Tryd.prog l W) (hm : ("errors.errorType", Rows.laid_errors_errorType) ∈ l) : ErrAt W := by
  obtain ⟨name, u, ty, e1, e2, e3, e4, e5⟩ := h _ hm
  have en : name = [101, 114, 114, 111, 114] := (Option.some.inj e1).symm
  subst en
  obtain rfl := Option.some.inj (cutR.symm.trans e2)
  have hm : ty ∈ (List.range Tryd.prog.types.size).filter fun t => Tryd.prog.rowNamed t [101, 114, 114, 111, 114] := List.mem_filter.2 ⟨List.mem_range.2 e3, e4⟩
  rw [rowError] at hm
  obtain rfl := List.mem_singleton.1 hm
  have hh : typeHandle Tryd.prog 25 = .pointer (some ⟨2, 25, none⟩) := by kernel_rfl
  rw [hh] at e5
  have v := World.var?_cell gErr e5 0
  simp at v
  exact ⟨v, lt_of_cell v⟩
abbrev errLaid : List (String × DataW Unit) := [("errors.errorType", Rows.laid_errors_errorType)]
abbrev farErrLaid : List (String × DataW Unit) := [("pairstone/curve.Far", Rows.laid_pairstone_curve_Far), ("errors.errorType", Rows.laid_errors_errorType)]
theorem errLaid_met (os : Os) (args : Array Value) : laidMetH Tryd.prog errLaid ((World.doorLaid Tryd.prog 400 os).forCall (fun _ _ => 0) ⟨#[], args, []⟩).memory :=
  laidMetH_of_parts ⟨[], rfl, List.nodup_nil, fun _ _ h => by cases h⟩ (by kernel_rfl)
theorem farErrLaid_met (os : Os) (args : Array Value) : laidMetH Tryd.prog farErrLaid ((World.doorLaid Tryd.prog 400 os).forCall (fun _ _ => 0) ⟨#[], args, []⟩).memory :=
  laidMetH_of_parts (laidMet_of_run' 8 (by kernel_rfl) (by kernel_rfl)) (by kernel_rfl)
theorem errLaid_at {W : World} (h : laidMetH Tryd.prog errLaid W) : ErrAt W := by
  have h' : laidMet Tryd.prog [] W ∧ handlesMet Tryd.prog errLaid W := h
  exact err_of_handles h'.2 (by simp)
theorem farErrLaid_at {W : World} (h : laidMetH Tryd.prog farErrLaid W) : FarAt W ∧ ErrAt W := by
  have h' : laidMet Tryd.prog farLaid W ∧ handlesMet Tryd.prog errLaid W := h
  exact ⟨farLaid_at (by rw [MakeChecks.laidMetH_plain _ _ _ (by kernel_rfl)]; exact h'.1), err_of_handles h'.2 (by simp)⟩
end Go.Proofs.YtebomakihdjllaaDoor
namespace Go.Proofs.YtebomakihdjllaaDoor
open Go.RowKit
set_option maxRecDepth 100000
theorem headL : ∃ l : List Char, Tryd.prog.initOrder = String.ofList l ∧ ((behindMainWord (wordsSigns l)).head? = some "cut".toList ∧
    (match wordsSigns l with
      | h :: s :: _ => if !isSumSigns s then none else if h == "harness".toList then some (true, s) else if h == "ownmain".toList then some (false, s) else none
      | _ => none) = some (true, "3a966905491734d8cd3a199d93d79b235007406c9601357167a4fc8b9c882912".toList)) := by
  refine ⟨?l, ?h1, ?h2, ?h3⟩
  case h1 =>
    unfold Tryd.prog
    first | rfl | (dsimp only; rfl)
  case h2 => kernel_rfl
  case h3 => kernel_rfl
theorem headCut : ∃ r, behindMainWord (wordsSigns Tryd.prog.initOrder.toList) = "cut".toList :: r := by
  obtain ⟨l, h, hw, -⟩ := headL
  rw [h, String.toList_ofList]
  cases e : behindMainWord (wordsSigns l) with
  | nil => rw [e] at hw; cases hw
  | cons c r => rw [e] at hw; exact ⟨r, by rw [Option.some.inj hw]⟩
theorem mainIsK : Tryd.prog.mainIs = some (true, "3a966905491734d8cd3a199d93d79b235007406c9601357167a4fc8b9c882912".toList) := by
  obtain ⟨l, h, -, hm⟩ := headL
  unfold Program.mainIs; rw [h, String.toList_ofList]; exact hm
theorem mayEnterK : Tryd.prog.mayEnter = true := by
  obtain ⟨r, h⟩ := headCut
  unfold Program.mayEnter; rw [h]; kernel_rfl
theorem headLiftsK : Tryd.prog.headLifts = [] := by
  obtain ⟨r, h⟩ := headCut
  unfold Program.headLifts; rw [h]; kernel_rfl
theorem liftsFinalK : Tryd.prog.liftsFinal = false := by
  obtain ⟨r, h⟩ := headCut
  unfold Program.liftsFinal; rw [h, headLiftsK]; kernel_rfl
theorem makeK : Tryd.prog.make = some .cut := by
  obtain ⟨r, h⟩ := headCut
  unfold Program.make; rw [h]; kernel_rfl
end Go.Proofs.YtebomakihdjllaaDoor
namespace Go.Proofs.YtebomakihdjllaaDoor.bookOnce
open Go.ChangeShapes Go.WideShapes Go.ChangeAt Go.RowKit
set_option linter.unusedVariables false
theorem typesOk : ([3, 3, 3, 3].all fun t => Tryd.prog.readableRec t && decide (t < Tryd.prog.types.size)) = true := by kernel_rfl
set_option maxRecDepth 100000 in
theorem lifted (os : Os) (started : os.Started) (H : Type) (enc : TypeId × Value → H) :
    ReturnsInHanded {} Tryd.checked os 3 .any (fun w args => (Rows.bookOnceSpec.pre enc Tryd.prog Tryd.f3 [] false w args ∧ laidMetH Tryd.prog farErrLaid w) ∧ sizedMet enc Tryd.prog Tryd.f3 (OpenSpec.ofChange Rows.bookOnceSpec) false w args)
      (Rows.bookOnceSpec.post enc Tryd.prog Tryd.f3 false true false false) := by
  refine returnsInHanded_of_change_and (C := Tryd.checked) (X := fun w _ => laidMetH Tryd.prog farErrLaid w) (fun _ _ _ hh h => h.of_heap hh) Tryd.ownK started (by kernel_rfl) Tryd.func3
    (ChangeSpec.witness_shaped (enc := enc) (C := Tryd.checked) (os := os) (X := fun w _ => laidMetH Tryd.prog farErrLaid w) false (World.doorLaid Tryd.prog 400 os) #[.int .i64 0, .int .i64 0, .int .i64 0, .int .i64 0] 8 rfl (World.shaped_of_RefB (by kernel_rfl) (by kernel_rfl)) (by kernel_rfl) (by kernel_rfl) (by kernel_rfl) (farErrLaid_met os _)) ?_
  intro W base args ds gs before hval0 hW hcnd hsz0 hL hholds
  have hval : ∀ (j : Nat) t v, Tryd.f3.params[j]? = some t → args[j]? = some v → Value.okWide Tryd.prog W .any base t v := hval0
  have hW' := hW
  obtain ⟨p, q, hA0, hV, rfl, hfz, hnd⟩ := hW
  have hA : DataW.TrodAll enc Tryd.prog W 0 (fun _ => true) true Tryd.f3.params.toList args.toList ds p := hA0
  obtain ⟨rfl, rfl⟩ := trodVars_none hV
  simp only [List.append_nil] at hW'
  have hlt : ∀ x ∈ p, x.block < W.heap.size := fun x hx => hW'.lt x hx
  have hsz : (DataW.weightsEach Tryd.prog (Tryd.f3.params.toList ++ Rows.bookOnceSpec.plain.varTypes Tryd.prog) (ds ++ [])).all (· ≤ reachBytes) = true := hsz0
  rw [Tryd.params3] at hA hval hsz
  have hK := hA
  obtain ⟨v0, vs0, d0, ds0, p0, q0, hargs, rfl, rfl, h0, r0⟩ := trodAll_cons hA
  obtain ⟨v1, vs1, d1, ds1, p1, q1, rfl, rfl, rfl, h1, r1⟩ := trodAll_cons r0
  obtain ⟨v2, vs2, d2, ds2, p2, q2, rfl, rfl, rfl, h2, r2⟩ := trodAll_cons r1
  obtain ⟨v3, vs3, d3, ds3, p3, q3, rfl, rfl, rfl, h3, r3⟩ := trodAll_cons r2
  obtain ⟨rfl, rfl, rfl⟩ := trodAll_nil r3
  obtain rfl : args = #[v0, v1, v2, v3] := by cases args; simp_all
  obtain ⟨a0, rfl, rfl, rfl, w0⟩ := open_int Tryd.underlying3 (hval 0 3 v0 rfl rfl) h0
  obtain ⟨a1, rfl, rfl, rfl, w1⟩ := open_int Tryd.underlying3 (hval 1 3 v1 rfl rfl) h1
  obtain ⟨a2, rfl, rfl, rfl, w2⟩ := open_int Tryd.underlying3 (hval 2 3 v2 rfl rfl) h2
  obtain ⟨a3, rfl, rfl, rfl, w3⟩ := open_int Tryd.underlying3 (hval 3 3 v3 rfl rfl) h3
  clear hA0 hval0
  refine (bookOnce_law a0 w0 a1 w1 a2 w2 a3 w3 W (farErrLaid_at hL)).mono fun e W' ⟨he, hg⟩ => ?_
  subst he
  exact ⟨_, rfl, post_of_below (pa := _) (pv := []) hW' (fun _ _ _ => (trodAll_cons_mk (shut_bool Tryd.underlying4 _) trodAll_mk0)) (fun sp hsp => trodAll_stays Tryd.laidOutK hg typesOk hK (fun x hx => ⟨hlt x hx, hsp x (by first | exact hx | (simp at hx) | simpa using hx)⟩)) (fun _ _ => rfl) (by simp) hg (ok_one (by kernel_rfl) rfl (okWide_bool_mk Tryd.underlying4 _))⟩

theorem over : Rows.bookOnceRow.holds Tryd.pinned (OpenSpec.ofChange Rows.bookOnceSpec) :=
  OpenClaim.holds_of_wide 3 Tryd.f3 rfl rfl rfl rfl rfl rfl rfl ⟨rfl, rfl, rfl, rfl, rfl⟩ rfl rfl rfl rfl rfl (by kernel_rfl) Tryd.func3 (by show joinedFacts Tryd.prog _ _ _ _ = true; unfold joinedFacts; rw [mayEnterK, liftsFinalK, makeK]; kernel_rfl)
    (of_decide_eq_true (by kernel_rfl)) (by unfold Func.isWrapper; first | (rw [if_pos (by decide +kernel)]; kernel_rfl) | (rw [if_neg (by decide +kernel)]; exact ⟨rfl, rfl⟩))
    (fun os started H enc _ => lifted os started H enc)
theorem card : Rows.BookOnceCardSaid :=
  Claim7.holds_tied_plain_at .later [] [.data, .handle] true (true, "3a966905491734d8cd3a199d93d79b235007406c9601357167a4fc8b9c882912") true
    over (fun _ h => by cases h) (by kernel_rfl) (fun _ h => by cases h) bookOnce_row_tie rfl ⟨rfl, rfl⟩ mainIsK rfl
    (fun f fn hf hfn => by
      obtain rfl : f = 3 := Option.some.inj ((show Tryd.prog.funcNamed "pairstone/stonelaw4.BookOnce" = some 3 by kernel_rfl).symm.trans hf) |>.symm
      obtain rfl : fn = Tryd.f3 := (Option.some.inj (Tryd.func3.symm.trans hfn)).symm
      exact ⟨by kernel_rfl, fun j t ht => by
        rw [Tryd.params3] at ht
        have hm : t ∈ ([3, 3, 3, 3] : List TypeId) := by simpa using Array.mem_of_getElem? ht
        have hall : (([3, 3, 3, 3] : List TypeId).all fun u => !Tryd.prog.wantsStandIn u) = true := by kernel_rfl
        exact (show Tryd.prog.wantsStandIn t = false by simpa using List.all_eq_true.1 hall t hm)⟩)
    (by kernel_rfl)
#print axioms card
end Go.Proofs.YtebomakihdjllaaDoor.bookOnce
