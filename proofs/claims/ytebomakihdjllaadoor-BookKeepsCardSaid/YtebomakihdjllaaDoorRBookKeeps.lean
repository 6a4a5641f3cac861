/- The statement of BookKeeps: for every input the law returns true, and the arguments read as they did. (its listed variable reads as laid; the card ties it) -/
import Derived.Test.YtebomakihdjllaaDoorMBookKeeps
import Derived.Deep.AppendLies
import Derived.Deep.RegionHeld3
import Derived.Test.YtebomakihdjllaaDoorTl
import Derived.Test.YtebomakihdjllaaDoorKe
import Derived.Deep.DeepCutAuto
import Derived.Deep.CutBlock
import Derived.Deep.RegionWith
import Derived.BigQuiet
import Derived.Deep.DrawnRows
import Derived.Test.YtebomakihdjllaaDoorOw
import Derived.Test.YtebomakihdjllaaDoorRows
import Derived.Test.YtebomakihdjllaaDoorWv
import Derived.ProofKit
import Derived.LaidMore
import Derived.OpenShut
import Derived.MakeChecks
import Derived.Deep.Strs
import Derived.LaidHandle
import Derived.Test.YtebomakihdjllaaDoorFr
import Derived.Test.YtebomakihdjllaaDoorFs
import Derived.SizedLaws
import Derived.Test.YtebomakihdjllaaDoorTie
import Derived.Test.YtebomakihdjllaaDoorCards
import Derived.SevenTiedAt
namespace Go.Proofs.YtebomakihdjllaaDoor
open Go.RowKit
set_option maxRecDepth 100000
set_option linter.unusedVariables false
set_option linter.unusedSimpArgs false
theorem bnew_nil (w : World) (hF : FarAt w) : Calls Tryd.prog 7 #[.slice none 0 0] w fun e w' => ∃ p, e = .returned (.tuple #[.pointer (some ⟨p, 0, none⟩), .nilIface]) ∧ BkAt w' w.heap.size p [] [] ∧ Below w.heap.size w w' :=
  bnew_y [] none 0 w (by decide) hF (fun h => absurd h (by decide))
theorem bcheck_no (w : World) (hF : FarAt w) : Calls Tryd.prog 34 #[.slice none 0 0] w fun e w' => e = .returned .nilIface ∧ Below w.heap.size w w' :=
  bcheck_core [] 0 .nilIface _ 0 w hF (by decide) (fun h => absurd h (by decide)) (Lib.hid fun k h _ => absurd h (Nat.not_lt_zero _)) (by decide) (Lib.hid fun h => absurd h (by decide)) (Lib.hid fun h => absurd h (by decide)) (Lib.hid fun _ => rfl)
theorem bex_nil (N : List Int) (G : List Bool) (B p : Nat) (w : World) (hF : FarAt w) (hBk : BkAt w B p N G) (hNl : N.length ≤ 1000000) :
    Calls Tryd.prog 9 #[.pointer (some ⟨p, 0, none⟩), .slice none 0 0, .slice none 0 0] w fun e w' => e = .returned (.tuple #[spV ⟨0, 0, true⟩, .nilIface]) ∧ Below w.heap.size w w' :=
  bex_core N G B p [] [] none none 0 0 0 0 .nilIface _ w hF hBk hNl (by decide) (by decide) (by decide) (fun h => absurd h (by decide)) (fun h => absurd h (by decide)) (by decide) (by decide) (fun i h => absurd h (Nat.not_lt_zero _)) (fun h => absurd h (by decide)) (Lib.hid fun w1 hb => bcheck_no w1 (hF.below hb)) (Lib.hid fun h => absurd h (by decide)) (Lib.hid fun _ => .inr ⟨rfl, [], rfl, by rw [show outN N [] + ([] : List Int).sum = 0 from rfl, qS_zero]⟩)
/-- A deal of nothing is done. -/
theorem bdo_nil (N : List Int) (G : List Bool) (B p : Nat) (P : Sp) (w : World) (hF : FarAt w) (hBk : BkAt w B p N G) (hB0 : B ≤ w.heap.size) (hNl : N.length ≤ 1000) (hP : Hid (sq (4 * hJ * 1) = P)) :
    Calls Tryd.prog 12 #[.pointer (some ⟨p, 0, none⟩), dlV (.slice none 0 0) (.slice none 0 0) P 1] w fun e w' => e = .returned .nilIface ∧ BkAt w' B p N G ∧ Below B w w' := by
  obtain ⟨vc, vg, hv⟩ := hBk
  have hq : Sp.beq (sq (4 * hJ * 1)) (sSum P (sq (4 * 0 * bAsk P ⟨0, 0, true⟩))) = true := by
    have := close_ok 1 (bAsk P ⟨0, 0, true⟩) 0 0 (by decide)
    rw [hP.out] at this
    rw [show (1 + bAsk P ⟨0, 0, true⟩ * ((0 : Int) % 1013)) % 1013 = 1 by rw [show (0 : Int) % 1013 = 0 from rfl, Int.mul_zero]; rfl] at this
    exact this
  have oP : Ok P := by rw [← hP.out]; exact sq_ok _
  refine (bdo_y N [] G B p vc vg [] [] none none 0 0 P 1 ⟨0, 0, true⟩ 0 w hF hv hB0 hNl (Lib.hid sq_zero.symm) (by decide) (fun h => absurd h (by decide)) (fun h => absurd h (by decide)) (fun g h => absurd h List.not_mem_nil) (Lib.hid fun w1 hb => bex_nil N G B p w1 (hF.below hb) ⟨_, _, hv.below hb⟩ (by omega)) (by simpa using hNl) (by decide) (by decide) oP (Lib.hid hq)).mono ?_
  rintro e w' ⟨rfl, vc', vg', hv', -, hb⟩
  refine ⟨rfl, ⟨vc', vg', ?_⟩, hb.below hB0 fun k hk => (hv.blk k hk).1⟩
  have e1 : goneL G [] ++ List.replicate ([] : List Int).length false = G := by show G ++ [] = G; rw [List.append_nil]
  rw [e1, List.append_nil] at hv'
  exact hv'
theorem btotal_nil (B p : Nat) (w : World) (hF : FarAt w) (hBk : BkAt w B p [] []) : Calls Tryd.prog 14 #[.pointer (some ⟨p, 0, none⟩)] w fun e w' => e = .returned (spV ⟨0, 0, true⟩) ∧ Below w.heap.size w w' := by
  have := btotal_c [] [] B p w hF hBk (by decide)
  rw [show totN [] [] ([] : List Int).length = 0 from rfl, qS_zero] at this
  exact this
theorem blive_n (N : List Int) (G : List Bool) (B p n : Nat) (w : World) (hBk : BkAt w B p N G) (hN : N.length ≤ 1000) (hn : Hid ((liveN G N.length).length = n)) :
    Calls Tryd.prog 13 #[.pointer (some ⟨p, 0, none⟩)] w fun e w' => ∃ a cap, e = .returned (.slice a n cap) ∧ Below w.heap.size w w' := by
  refine (blive_c N G B p w hBk (by omega)).mono ?_
  rintro e w' ⟨v, rfl, ho, hb⟩
  rw [hn.out] at ho
  obtain ⟨a, cap, rfl⟩ := own_slB ho
  exact ⟨a, cap, rfl, hb⟩
/-- The numbers of coins made of values and rests. -/
def coinN (vs rs : List Int) : Nat → List Int
  | 0 => []
  | n + 1 => coinN vs rs n ++ [vs.getD n 0 + hJ * rs.getD n 0]
theorem coinN_len (vs rs : List Int) : ∀ n, (coinN vs rs n).length = n
  | 0 => rfl
  | n + 1 => by unfold coinN; rw [List.length_append, coinN_len vs rs n]; rfl
theorem coinN_get (vs rs : List Int) : ∀ n p, p < n → (coinN vs rs n).getD p 0 = vs.getD p 0 + hJ * rs.getD p 0
  | 0, p, h => absurd h (Nat.not_lt_zero _)
  | n + 1, p, h => by
    unfold coinN
    by_cases e : p < n
    · rw [getD_app_lo _ _ _ _ (by rw [coinN_len]; exact e), coinN_get vs rs n p e]
    · obtain rfl : p = n := by omega
      have := getD_app_hi (coinN vs rs p) [vs.getD p 0 + hJ * rs.getD p 0] 0 0
      rw [coinN_len, Nat.add_zero] at this
      rw [this]; rfl
def okV (vs rs : List Int) (n : Nat) : Prop := ∀ j, j < n → 0 ≤ vs.getD j 0 ∧ vs.getD j 0 < 1013 ∧ 0 ≤ rs.getD j 0 ∧ rs.getD j 0 < 1013
theorem okV.snoc {vs rs : List Int} {n : Nat} (h : okV vs rs n) (k : 0 ≤ vs.getD n 0 ∧ vs.getD n 0 < 1013 ∧ 0 ≤ rs.getD n 0 ∧ rs.getD n 0 < 1013) : okV vs rs (n + 1) := fun j hj => by
  by_cases e : j < n
  · exact h j e
  · obtain rfl : j = n := by omega
    exact k
/-- Sums of those picked. -/
def psum (l : List Int) (ps : List Nat) : Int := (ps.map fun p => l.getD p 0).sum
theorem psum_snoc (l : List Int) (ps : List Nat) (p : Nat) : psum l (ps ++ [p]) = psum l ps + l.getD p 0 := by unfold psum; rw [List.map_append, List.sum_append]; simp
theorem psum_bd (l : List Int) (n : Nat) (h : ∀ j, j < n → 0 ≤ l.getD j 0 ∧ l.getD j 0 < 1013) : ∀ ps : List Nat, (∀ p ∈ ps, p < n) → 0 ≤ psum l ps ∧ psum l ps ≤ 1012 * ps.length
  | [], _ => by simp [psum]
  | p :: ps, hp => by
    have h1 := psum_bd l n h ps fun q hq => hp q (List.mem_cons_of_mem _ hq)
    have h2 := h p (hp p List.mem_cons_self)
    have e : psum l (p :: ps) = l.getD p 0 + psum l ps := by unfold psum; simp
    rw [e, List.length_cons]; omega
def tsum (l : List Int) : Nat → Int
  | 0 => 0
  | n + 1 => tsum l n + l.getD n 0
theorem tsum_bd (l : List Int) : ∀ n, (∀ j, j < n → 0 ≤ l.getD j 0 ∧ l.getD j 0 < 1013) → 0 ≤ tsum l n ∧ tsum l n ≤ 1012 * n
  | 0, _ => by simp [tsum]
  | n + 1, h => by
    have h1 := tsum_bd l n fun j hj => h j (by omega)
    have h2 := h n (by omega)
    unfold tsum; omega
theorem coinN_sum (vs rs : List Int) : ∀ n, (coinN vs rs n).sum = tsum vs n + hJ * tsum rs n
  | 0 => by simp [coinN, tsum]
  | n + 1 => by unfold coinN tsum; rw [List.sum_append, coinN_sum vs rs n, Int.mul_add]; simp; omega
theorem outN_coin (vs rs : List Int) (n : Nat) : ∀ ps : List Nat, (∀ p ∈ ps, p < n) → outN (coinN vs rs n) (nI ps) = -(psum vs ps) - hJ * psum rs ps
  | [], _ => by simp [outN, nI, psum]
  | p :: ps, hp => by
    have e : ∀ l, psum l (p :: ps) = l.getD p 0 + psum l ps := fun l => by unfold psum; simp
    rw [outN_cons, outN_coin vs rs n ps fun q hq => hp q (List.mem_cons_of_mem _ hq), coinN_get vs rs n p (hp p List.mem_cons_self), e, e, Int.mul_add]; omega
/-- What goes and what comes, in one number. -/
theorem deal_num (vs rs come by' : List Int) (n m : Nat) (ps : List Nat) (hp : ∀ p ∈ ps, p < n) : outN (coinN vs rs n) (nI ps) + (coinN come by' m).sum = (-(psum vs ps) + tsum come m) + hJ * (-(psum rs ps) + tsum by' m) := by
  rw [outN_coin vs rs n ps hp, coinN_sum, Int.mul_add, Int.mul_neg]; omega
/-- The array at block b tells which of the first m places are among ps. -/
structure InAt (w : World) (b m : Nat) (ps : List Nat) : Prop where
  lt : b < w.heap.size
  c : ∀ j, j < m → w.cell? ⟨b, j, none⟩ = some (.bool (decide (j ∈ ps)))
  f : ∀ j, j < m → w.frozen? ⟨b, j, none⟩ = false
theorem InAt.keep {w w' : World} {b m : Nat} {ps : List Nat} (h : InAt w b m ps) (hs : w.heap.size ≤ w'.heap.size) (hb : w'.heap[b]? = w.heap[b]?) : InAt w' b m ps :=
  ⟨Nat.lt_of_lt_of_le h.lt hs, fun j hj => (World.cell?_of_block (a := ⟨b, j, none⟩) hb).trans (h.c j hj), fun j hj => (World.frozen?_of_block (a := ⟨b, j, none⟩) hb).trans (h.f j hj)⟩
theorem InAt.fresh (w : World) (m : Nat) (cs : Array Value) (t : TypeId) (hc : cs = Array.replicate m (.bool false)) : InAt (w.alloc (.cells cs t)) w.heap.size m [] := by
  subst hc
  refine ⟨by simp, fun j hj => ?_, fun j hj => ?_⟩
  · rw [cell_of_row _ w.heap.size _ (Array.replicate m (.bool false)) t (0, 0) (heap_alloc_new w _)]
    simp [hj]
  · simp
theorem InAt.put {w : World} {b m : Nat} {ps : List Nat} (h : InAt w b m ps) (p : Nat) (hp : p < m) : InAt (w.setCell ⟨b, p, none⟩ (.bool true)) b m (ps ++ [p]) := by
  refine ⟨by simpa [World.setCell] using h.lt, fun j hj => ?_, fun j hj => by rw [World.frozen?_setCell]; exact h.f j hj⟩
  by_cases e : j = p
  · subst e
    rw [World.cell?_setCell_same _ _ _ (h.c j hj)]; simp
  · rw [World.cell?_setCell_other (h := fun k => e (by cases k; rfl)), h.c j hj]
    simp [e]
theorem nodup_le : ∀ (n : Nat) (l : List Nat), l.Nodup → (∀ x ∈ l, x < n) → l.length ≤ n
  | 0, l, _, h => by
    cases l with
    | nil => exact Nat.le_refl _
    | cons x l => exact absurd (h x (List.mem_cons_self ..)) (Nat.not_lt_zero _)
  | n + 1, l, hd, h => by
    have ih := nodup_le n (l.erase n) (hd.erase n) (fun x hx => by
      have := (hd.mem_erase_iff).mp hx
      have := h x this.2
      omega)
    rw [List.length_erase] at ih
    split at ih <;> omega
/-- A deal that lies in a block. -/
structure DlAt (w : World) (b : Nat) (g n : Value) (r : Sp) (s : Int) : Prop where
  c0 : w.cell? ⟨b, 0, none⟩ = some g
  c1 : w.cell? ⟨b, 1, none⟩ = some n
  c2 : w.cell? ⟨b, 2, none⟩ = some (.int .i64 r.x)
  c3 : w.cell? ⟨b, 3, none⟩ = some (.int .i64 r.y)
  c4 : w.cell? ⟨b, 4, none⟩ = some (.bool r.far)
  c5 : w.cell? ⟨b, 5, none⟩ = some (.int .i64 s)
  f0 : w.frozen? ⟨b, 0, none⟩ = false
  f1 : w.frozen? ⟨b, 1, none⟩ = false
  f2 : w.frozen? ⟨b, 2, none⟩ = false
  f3 : w.frozen? ⟨b, 3, none⟩ = false
  f4 : w.frozen? ⟨b, 4, none⟩ = false
  f5 : w.frozen? ⟨b, 5, none⟩ = false
  lt : b < w.heap.size
theorem DlAt.keep {w w' : World} {b : Nat} {g n : Value} {r : Sp} {s : Int} (h : DlAt w b g n r s) (hs : w.heap.size ≤ w'.heap.size) (hb : w'.heap[b]? = w.heap[b]?) : DlAt w' b g n r s :=
  have c : ∀ o, w'.cell? ⟨b, o, none⟩ = w.cell? ⟨b, o, none⟩ := fun o => World.cell?_of_block (a := ⟨b, o, none⟩) hb
  have f : ∀ o, w'.frozen? ⟨b, o, none⟩ = w.frozen? ⟨b, o, none⟩ := fun o => World.frozen?_of_block (a := ⟨b, o, none⟩) hb
  ⟨(c 0).trans h.c0, (c 1).trans h.c1, (c 2).trans h.c2, (c 3).trans h.c3, (c 4).trans h.c4, (c 5).trans h.c5, (f 0).trans h.f0, (f 1).trans h.f1, (f 2).trans h.f2, (f 3).trans h.f3, (f 4).trans h.f4, (f 5).trans h.f5, Nat.lt_of_lt_of_le h.lt hs⟩
theorem DlAt.below {w w' : World} {b : Nat} {g n : Value} {r : Sp} {s : Int} (h : DlAt w b g n r s) (hb : Below w.heap.size w w') : DlAt w' b g n r s := h.keep hb.size (hb.block b h.lt)
theorem DlAt.fresh (w : World) (t : TypeId) : DlAt (w.alloc (.cells #[.slice none 0 0, .slice none 0 0, .int .i64 0, .int .i64 0, .bool false, .int .i64 0] t)) w.heap.size (.slice none 0 0) (.slice none 0 0) ⟨0, 0, false⟩ 0 := ⟨by simp, by simp, by simp, by simp, by simp, by simp, by simp, by simp, by simp, by simp, by simp, by simp, by simp⟩
theorem DlAt.setg {w : World} {b : Nat} {g n : Value} {r : Sp} {s : Int} (h : DlAt w b g n r s) (v : Value) : DlAt (w.setCell ⟨b, 0, none⟩ v) b v n r s := by
  have c : ∀ o, o ≠ 0 → (w.setCell ⟨b, 0, none⟩ v).cell? ⟨b, o, none⟩ = w.cell? ⟨b, o, none⟩ := fun o ho => World.cell?_setCell_other _ _ _ _ (fun e => ho (congrArg Addr.off e).symm)
  have f : ∀ o, (w.setCell ⟨b, 0, none⟩ v).frozen? ⟨b, o, none⟩ = w.frozen? ⟨b, o, none⟩ := fun o => World.frozen?_setCell ..
  exact ⟨World.cell?_setCell_same _ _ _ h.c0, (c 1 (by decide)).trans h.c1, (c 2 (by decide)).trans h.c2, (c 3 (by decide)).trans h.c3, (c 4 (by decide)).trans h.c4, (c 5 (by decide)).trans h.c5, (f 0).trans h.f0, (f 1).trans h.f1, (f 2).trans h.f2, (f 3).trans h.f3, (f 4).trans h.f4, (f 5).trans h.f5, by simpa [World.setCell] using h.lt⟩
theorem DlAt.setn {w : World} {b : Nat} {g n : Value} {r : Sp} {s : Int} (h : DlAt w b g n r s) (v : Value) : DlAt (w.setCell ⟨b, 1, none⟩ v) b g v r s := by
  have c : ∀ o, o ≠ 1 → (w.setCell ⟨b, 1, none⟩ v).cell? ⟨b, o, none⟩ = w.cell? ⟨b, o, none⟩ := fun o ho => World.cell?_setCell_other _ _ _ _ (fun e => ho (congrArg Addr.off e).symm)
  have f : ∀ o, (w.setCell ⟨b, 1, none⟩ v).frozen? ⟨b, o, none⟩ = w.frozen? ⟨b, o, none⟩ := fun o => World.frozen?_setCell ..
  exact ⟨(c 0 (by decide)).trans h.c0, World.cell?_setCell_same _ _ _ h.c1, (c 2 (by decide)).trans h.c2, (c 3 (by decide)).trans h.c3, (c 4 (by decide)).trans h.c4, (c 5 (by decide)).trans h.c5, (f 0).trans h.f0, (f 1).trans h.f1, (f 2).trans h.f2, (f 3).trans h.f3, (f 4).trans h.f4, (f 5).trans h.f5, by simpa [World.setCell] using h.lt⟩
theorem DlAt.set1 {w : World} {b : Nat} {g n : Value} {r : Sp} {s : Int} (h : DlAt w b g n r s) (R : Sp) (S : Int) : DlAt ((((w.setCell ⟨b, 2, none⟩ (.int .i64 R.x)).setCell ⟨b, 3, none⟩ (.int .i64 R.y)).setCell ⟨b, 4, none⟩ (.bool R.far)).setCell ⟨b, 5, none⟩ (.int .i64 S)) b g n R S := by
  have c : ∀ (w : World) (q o : Nat) (v : Value), o ≠ q → (w.setCell ⟨b, q, none⟩ v).cell? ⟨b, o, none⟩ = w.cell? ⟨b, o, none⟩ := fun w q o v ho => World.cell?_setCell_other _ _ _ _ (fun e => ho (congrArg Addr.off e).symm)
  have f : ∀ (w : World) (q o : Nat) (v : Value), (w.setCell ⟨b, q, none⟩ v).frozen? ⟨b, o, none⟩ = w.frozen? ⟨b, o, none⟩ := fun w q o v => World.frozen?_setCell ..
  refine ⟨?_, ?_, ?_, ?_, ?_, ?_, ?_, ?_, ?_, ?_, ?_, ?_, by simpa [World.setCell] using h.lt⟩
  · rw [c _ 5 0 _ (by decide), c _ 4 0 _ (by decide), c _ 3 0 _ (by decide), c _ 2 0 _ (by decide)]; exact h.c0
  · rw [c _ 5 1 _ (by decide), c _ 4 1 _ (by decide), c _ 3 1 _ (by decide), c _ 2 1 _ (by decide)]; exact h.c1
  · rw [c _ 5 2 _ (by decide), c _ 4 2 _ (by decide), c _ 3 2 _ (by decide)]; exact World.cell?_setCell_same _ _ _ h.c2
  · rw [c _ 5 3 _ (by decide), c _ 4 3 _ (by decide)]; exact World.cell?_setCell_same _ _ _ ((c _ 2 3 _ (by decide)).trans h.c3)
  · rw [c _ 5 4 _ (by decide)]; exact World.cell?_setCell_same _ _ _ ((c _ 3 4 _ (by decide)).trans ((c _ 2 4 _ (by decide)).trans h.c4))
  · exact World.cell?_setCell_same _ _ _ ((c _ 4 5 _ (by decide)).trans ((c _ 3 5 _ (by decide)).trans ((c _ 2 5 _ (by decide)).trans h.c5)))
  all_goals rw [f, f, f, f]
  · exact h.f0
  · exact h.f1
  · exact h.f2
  · exact h.f3
  · exact h.f4
  · exact h.f5
section
variable {ops : Array Oper} {o : Oper} {a : Act} {w : World} {K : Act → World → Prop} {Q : Exit → Act → World → Prop} {E : Prop}
theorem stepi_app (hgd : o.guard = none) (s x : Operand) (t : TypeId)
    (ho : o.op = .call { callee := .builtin .append, args := #[s, x], argTypes := #[t, t] }) (ht : Tryd.prog.underlying t = some (.slice 3)) (B : Nat) (v : Value) (l : List Int) (n : Nat) (hs : a.eval s = v)
    (hown : w.ownsRow B 3 1 v n (l.map (Value.int .i64))) (hn : l.length = n) (hl : n ≤ 1000000) (hB : B ≤ w.heap.size) (g : Nat) (c : Int) (hx : a.eval x = .slice (some ⟨g, 0, none⟩) 1 1)
    (h0 : w.cell? ⟨g, 0, none⟩ = some (.int .i64 c))
    (h : ∀ v' w', w'.ownsRow B 3 1 v' (n + 1) ((l ++ [c]).map (Value.int .i64)) → w.grownBy w' v.ownBlock → (v'.ownBlock = v.ownBlock ∨ v'.ownBlock = some w.heap.size) → K (a.put o.dst v') w') :
    if Region.wanted o (yielded ops a.tmps) = true then Oper.wp Tryd.prog o a w K Q else E := by
  obtain ⟨i0, hi, hz0, hz1, hz2⟩ := info_parts info_int
  refine step_append_lies w hgd s x _ ho B _ i0 _ 1 8 ht hi hz0 hz1 hz2 rfl (by decide) v n _ hs hown ⟨g, 0, none⟩ 1 1 [.int .i64 c] hx rfl ?_ ?_ (by decide) (by unfold maxLen; omega) (by omega) hB _ rfl ?_
  · intro j u hj
    have e : ∀ k, (⟨g, 0, none⟩ : Addr).add k = ⟨g, k, none⟩ := fun k => by rw [add_none, Nat.zero_add]
    rw [e]
    match j, hj with
    | 0, hj => cases hj; exact h0
  · intro u hu
    simp only [List.mem_cons, List.not_mem_nil, or_false] at hu
    subst hu; rfl
  · intro k cap w' h3 h4 h5 _
    rw [show l.map (Value.int .i64) ++ [.int .i64 c] = (l ++ [c]).map (Value.int .i64) by simp] at h3
    refine h _ w' h3 h4 ?_
    rcases h5 with h5 | h5
    · exact .inl (by rw [h5]; rfl)
    · exact .inr (by rw [h5]; rfl)
end
theorem nI_snoc (ps : List Nat) (q : Nat) : nI (ps ++ [q]) = nI ps ++ [(q : Int)] := by unfold nI; rw [List.map_append]; rfl
theorem IntsAt.but {S : Nat → Prop} {w w' : World} {b o : Nat} {l : List Int} (h : IntsAt w b o l) (hb : But S w w') (hs : ¬ S b) : IntsAt w' b o l :=
  ⟨Nat.lt_of_lt_of_le h.lt hb.size, fun i hi => (hb.cell h.lt hs _).trans (h.c i hi)⟩
theorem own_intsB {w : World} {B e n : Nat} {v : Value} {l : List Int} (h : w.ownsRow B e 1 v n (l.map (Value.int .i64))) (hn : n = l.length) : ∃ a cap, v = .slice a n cap ∧ n ≤ cap ∧ cap ≤ 9223372036854775807 ∧ (0 < l.length → ∃ b o, a = some ⟨b, o, none⟩ ∧ IntsAt w b o l ∧ B ≤ b) := by
  rcases h.2 with ⟨rfl, h0⟩ | ⟨g, cap, cur, rfl, hB, -, hc, hm, -⟩
  · exact ⟨none, 0, by rw [h0], by omega, by decide, fun h1 => by omega⟩
  · refine ⟨_, cap, rfl, hc, by unfold maxLen at hm; omega, fun h1 => ?_⟩
    obtain ⟨a, c, e2, h3⟩ := own_ints h hn
    obtain ⟨b, o, e3, h4⟩ := h3 h1
    simp only [Value.slice.injEq] at e2
    obtain ⟨e5, -, -⟩ := e2
    rw [e3] at e5
    have e6 := Option.some.inj e5
    simp only [Addr.mk.injEq] at e6
    obtain ⟨e7, -, -⟩ := e6
    exact ⟨b, o, e3 ▸ (by rw [e3]; exact e5), h4, e7 ▸ hB⟩
theorem own_spotsB {w : World} {B e n : Nat} {v : Value} {l : List Sp} (h : w.ownsRow B e 3 v n (spCells l)) (hn : n = l.length) : ∃ a cap, v = .slice a n cap ∧ (0 < l.length → ∃ b o, a = some ⟨b, o, none⟩ ∧ SpotsAt w b o l ∧ B ≤ b) := by
  rcases h.2 with ⟨rfl, h0⟩ | ⟨g, cap, cur, rfl, hB, -, hc, hm, -⟩
  · exact ⟨none, 0, by rw [h0], fun h1 => by omega⟩
  · refine ⟨_, cap, rfl, fun h1 => ?_⟩
    obtain ⟨a, c, e2, h3⟩ := own_spots h hn
    obtain ⟨b, o, e3, h4⟩ := h3 h1
    simp only [Value.slice.injEq] at e2
    obtain ⟨e5, -, -⟩ := e2
    rw [e3] at e5
    have e6 := Option.some.inj e5
    simp only [Addr.mk.injEq] at e6
    obtain ⟨e7, -, -⟩ := e6
    exact ⟨b, o, e3 ▸ (by rw [e3]; exact e5), h4, e7 ▸ hB⟩
theorem nI_get (ps : List Nat) (i : Nat) (h : i < (nI ps).length) : (nI ps)[i] = ((ps[i]'(by rw [nI_len] at h; exact h) : Nat) : Int) := by simp [nI]
theorem gErr_fresh (n : Nat) (ps : List Nat) (hnd : ps.Nodup) (hps : ∀ q ∈ ps, q < n) (i : Nat) (h : i < (nI ps).length) : gErrB (List.replicate n false) ((nI ps).take i) (nI ps)[i] = 0 := by
  have hi : i < ps.length := by rw [nI_len] at h; exact h
  have h1 := hps _ (List.getElem_mem hi)
  rw [nI_get ps i h]
  unfold gErrB
  rw [if_neg (by rw [List.length_replicate]; omega), if_neg (by rw [Int.toNat_natCast, getD_fresh n _ h1]; simp), if_neg ?_]
  intro hm
  obtain ⟨j, hj, e⟩ := List.getElem_of_mem hm
  rw [List.length_take] at hj
  rw [List.getElem_take, nI_get ps j (by omega)] at e
  have := List.pairwise_iff_getElem.mp hnd j i (by omega) hi (by omega)
  omega
theorem gErr_again (n m : Nat) (ps : List Nat) (hps : ∀ q ∈ ps, q < n) (h : 0 < (nI ps).length) : gErrB (goneL (List.replicate n false) (nI ps) ++ List.replicate m false) ((nI ps).take 0) (nI ps)[0] = 6 := by
  have hi : 0 < ps.length := by rw [nI_len] at h; exact h
  have h0 := List.getElem_mem hi
  have h1 := hps _ h0
  rw [nI_get ps 0 h]
  unfold gErrB
  have hl : (goneL (List.replicate n false) (nI ps)).length = n := by rw [goneL_len, List.length_replicate]
  rw [if_neg (by rw [List.length_append, hl]; omega), if_pos]
  rw [Int.toNat_natCast, getD_app_lo _ _ _ _ (by rw [hl]; exact h1), goneL_getD, if_pos h0]
section
variable (N M : List Int) (B p n m : Nat) (ps : List Nat) (a0 a1 : Option Addr) (c0 c1 : Nat) (X : Sp) (w : World) (hF : FarAt w)
include hF
theorem bex_all (hBk : BkAt w B p N (List.replicate n false)) (hn : N.length = n) (hN : n ≤ 900) (hm : M.length = m) (hM : m ≤ 12) (hnd : ps.Nodup) (hps : ∀ q ∈ ps, q < n) (hc0 : ps.length ≤ c0) (hc0' : c0 ≤ 9223372036854775807) (hX : Hid (qS (outN N (nI ps) + M.sum) = X)) (h0 : 0 < (nI ps).length → ∃ b o, a0 = some ⟨b, o, none⟩ ∧ IntsAt w b o (nI ps)) (h1 : 0 < (M.map qS).length → ∃ b o, a1 = some ⟨b, o, none⟩ ∧ SpotsAt w b o (M.map qS)) :
    Calls Tryd.prog 9 #[.pointer (some ⟨p, 0, none⟩), .slice a0 ps.length c0, .slice a1 m c1] w fun e w' => e = .returned (.tuple #[spV X, .nilIface]) ∧ Below w.heap.size w w' := by
  subst hm
  have hl : (M.map qS).length = M.length := List.length_map _
  have hb := bex_core N (List.replicate n false) B p (nI ps) (M.map qS) a0 a1 c0 c1 (nI ps).length 0 .nilIface (.tuple #[spV X, .nilIface]) w hF hBk (by omega) (by rw [nI_len]; omega) (by rw [nI_len]; omega) hc0' h0 h1 (by omega) (Nat.le_refl _) (fun i h _ => gErr_fresh n ps hnd hps i h) (fun h => absurd h (Nat.lt_irrefl _))
    (Lib.hid fun w1 hb1 => bcheck_core (M.map qS) (M.map qS).length .nilIface a1 c1 w1 (hF.below hb1) (by omega) (fun h => by obtain ⟨b, o, e, hs⟩ := h1 h; exact ⟨b, o, e, hs.below hb1⟩) (Lib.hid fun k h1 _ => ⟨_, List.getElem_map _⟩) (Nat.le_refl _) (Lib.hid fun h => absurd h (Nat.lt_irrefl _)) (Lib.hid fun h => absurd h (Nat.lt_irrefl _)) (Lib.hid fun _ => rfl))
    (Lib.hid fun h => absurd h (Nat.lt_irrefl _)) (Lib.hid fun _ => .inr ⟨rfl, M, rfl, by rw [hX.out]⟩)
  rw [hl, nI_len] at hb
  exact hb
theorem bdo_all (vc vg : Value) (P : Sp) (S x : Int) (hBk : BkV w B p vc vg N (List.replicate n false)) (hB0 : B ≤ w.heap.size) (hn : N.length = n) (hN : n ≤ 900) (hm : M.length = m) (hM : m ≤ 12) (hnd : ps.Nodup) (hps : ∀ q ∈ ps, q < n) (hc0 : ps.length ≤ c0) (hc0' : c0 ≤ 9223372036854775807) (hx : Hid (outN N (nI ps) + M.sum = x)) (hX : Hid (qS x = X)) (h0 : 0 < (nI ps).length → ∃ b o, a0 = some ⟨b, o, none⟩ ∧ IntsAt w b o (nI ps) ∧ ¬ inB p vc vg b) (h1 : 0 < (M.map qS).length → ∃ b o, a1 = some ⟨b, o, none⟩ ∧ SpotsAt w b o (M.map qS) ∧ ¬ inB p vc vg b)
    (S0 : 0 ≤ S) (S1 : S < 1013) (oP : Ok P) (hq : Hid (Sp.beq (sq (4 * hJ * S)) (sSum P (sq (4 * x * bAsk P X))) = true)) :
    Calls Tryd.prog 12 #[.pointer (some ⟨p, 0, none⟩), dlV (.slice a0 ps.length c0) (.slice a1 m c1) P S] w fun e w' => e = .returned .nilIface ∧ Did w w' B p vc vg (N ++ M) (goneL (List.replicate n false) (nI ps) ++ List.replicate m false) := by
  have hexx := fun (w1 : World) (hb : Below w.heap.size w w1) => bex_all N M B p n m ps a0 a1 c0 c1 X w1 (hF.below hb) ⟨_, _, hBk.below hb⟩ hn hN hm hM hnd hps hc0 hc0' (Lib.hid (by rw [hx.out]; exact hX.out)) (fun h => by obtain ⟨b, o, e, hs, -⟩ := h0 h; exact ⟨b, o, e, hs.below hb⟩) (fun h => by obtain ⟨b, o, e, hs, -⟩ := h1 h; exact ⟨b, o, e, hs.below hb⟩)
  subst hm
  have hb := bdo_y N M (List.replicate n false) B p vc vg (nI ps) [] a0 a1 c0 c1 P S X x w hF hBk hB0 (by omega) (Lib.hid hX.out.symm) (by rw [nI_len]; omega) h0 h1 (fun g hg => by
    obtain ⟨q, hq1, rfl⟩ := List.mem_map.mp hg
    have := hps q hq1
    omega) (Lib.hid (by rw [nI_len]; exact hexx)) (by omega) S0 S1 oP hq
  rw [nI_len] at hb
  exact hb
theorem bdo_wrong (P : Sp) (S x : Int) (hBk : BkAt w B p N (List.replicate n false)) (hn : N.length = n) (hN : n ≤ 900) (hm : M.length = m) (hM : m ≤ 12) (hnd : ps.Nodup) (hps : ∀ q ∈ ps, q < n) (hc0 : ps.length ≤ c0) (hc0' : c0 ≤ 9223372036854775807) (hx : Hid (outN N (nI ps) + M.sum = x)) (hX : Hid (qS x = X)) (h0 : 0 < (nI ps).length → ∃ b o, a0 = some ⟨b, o, none⟩ ∧ IntsAt w b o (nI ps)) (h1 : 0 < (M.map qS).length → ∃ b o, a1 = some ⟨b, o, none⟩ ∧ SpotsAt w b o (M.map qS))
    (S0 : 0 ≤ S) (S1 : S < 1013) (oP : Ok P) (hq : Hid (Sp.beq (sq (4 * hJ * S)) (sSum P (sq (4 * x * bAsk P X))) = false)) :
    Calls Tryd.prog 12 #[.pointer (some ⟨p, 0, none⟩), dlV (.slice a0 ps.length c0) (.slice a1 m c1) P S] w fun e w' => e = .returned (.iface 69 (.int .i64 8)) ∧ Below w.heap.size w w' :=
  bdo_n N (List.replicate n false) B p a0 a1 ps.length m c0 c1 P S X x 8 _ w hF hBk (by omega) (by omega) (Lib.hid hX.out.symm)
    (Lib.hid fun w1 hb => bex_all N M B p n m ps a0 a1 c0 c1 X w1 (hF.below hb) (hBk.below hb) hn hN hm hM hnd hps hc0 hc0' (Lib.hid (by rw [hx.out]; exact hX.out)) (fun h => by obtain ⟨b, o, e, hs⟩ := h0 h; exact ⟨b, o, e, hs.below hb⟩) (fun h => by obtain ⟨b, o, e, hs⟩ := h1 h; exact ⟨b, o, e, hs.below hb⟩))
    (Lib.hid (.inr ⟨rfl, .inr ⟨by omega, .inr ⟨⟨S0, S1⟩, .inr ⟨oP, rfl, hq.out⟩⟩⟩⟩))
/-- No coin goes twice. -/
theorem bdo_again (P : Sp) (S : Int) (hBk : BkAt w B p N (goneL (List.replicate n false) (nI ps) ++ List.replicate m false)) (hN : N.length ≤ 1000) (hM : m ≤ 12) (hps : ∀ q ∈ ps, q < n) (hp0 : 0 < ps.length) (hc0 : ps.length ≤ c0) (hc0' : c0 ≤ 9223372036854775807) (hC : M.length = m) (h0 : 0 < (nI ps).length → ∃ b o, a0 = some ⟨b, o, none⟩ ∧ IntsAt w b o (nI ps)) (h1 : 0 < (M.map qS).length → ∃ b o, a1 = some ⟨b, o, none⟩ ∧ SpotsAt w b o (M.map qS)) :
    Calls Tryd.prog 12 #[.pointer (some ⟨p, 0, none⟩), dlV (.slice a0 ps.length c0) (.slice a1 m c1) P S] w fun e w' => e = .returned (.iface 69 (.int .i64 6)) ∧ Below w.heap.size w w' := by
  subst hC
  have hl : (M.map qS).length = M.length := List.length_map _
  have hex := fun (w1 : World) (hb : Below w.heap.size w w1) => bex_core N _ B p (nI ps) (M.map qS) a0 a1 c0 c1 0 6 .nilIface (.tuple #[spV ⟨0, 0, false⟩, .iface 69 (.int .i64 6)]) w1 (hF.below hb) (hBk.below hb) (by omega) (by rw [nI_len]; omega) (by rw [nI_len]; omega) hc0' (fun h => by obtain ⟨b, o, e, hs⟩ := h0 h; exact ⟨b, o, e, hs.below hb⟩) (fun h => by obtain ⟨b, o, e, hs⟩ := h1 h; exact ⟨b, o, e, hs.below hb⟩) (by omega) (Nat.zero_le _) (fun i _ h => absurd h (Nat.not_lt_zero _)) (fun h => ⟨gErr_again n _ ps hps h, by decide⟩)
    (Lib.hid fun w2 hb2 => bcheck_core (M.map qS) (M.map qS).length .nilIface a1 c1 w2 (hF.below (below_seq hb hb2)) (by rw [List.length_map]; omega) (fun h => by obtain ⟨b, o, e, hs⟩ := h1 h; exact ⟨b, o, e, hs.below (below_seq hb hb2)⟩) (Lib.hid fun k h1 _ => ⟨_, List.getElem_map _⟩) (Nat.le_refl _) (Lib.hid fun h => absurd h (Nat.lt_irrefl _)) (Lib.hid fun h => absurd h (Nat.lt_irrefl _)) (Lib.hid fun _ => rfl))
    (Lib.hid fun _ => rfl) (Lib.hid fun h => absurd h (by rw [nI_len]; omega))
  simp only [nI_len, List.length_map] at hex
  exact bdo_n N _ B p a0 a1 ps.length M.length c0 c1 P S ⟨0, 0, true⟩ 0 6 _ w hF hBk (by omega) (by omega) (Lib.hid sq_zero.symm) (Lib.hid hex) (Lib.hid (.inl rfl))
end
end Go.Proofs.YtebomakihdjllaaDoor
namespace Go.Proofs.YtebomakihdjllaaDoor
open Go.RowKit
set_option maxRecDepth 100000
set_option linter.unusedVariables false
set_option linter.unusedSimpArgs false
/-- A seal that lies in a block. -/
structure SeAt (w : World) (b : Nat) (s : Sp) (z : Int) : Prop where
  c0 : w.cell? ⟨b, 0, none⟩ = some (.int .i64 s.x)
  c1 : w.cell? ⟨b, 1, none⟩ = some (.int .i64 s.y)
  c2 : w.cell? ⟨b, 2, none⟩ = some (.bool s.far)
  c3 : w.cell? ⟨b, 3, none⟩ = some (.int .i64 z)
  f0 : w.frozen? ⟨b, 0, none⟩ = false
  f1 : w.frozen? ⟨b, 1, none⟩ = false
  f2 : w.frozen? ⟨b, 2, none⟩ = false
  f3 : w.frozen? ⟨b, 3, none⟩ = false
  lt : b < w.heap.size
theorem SeAt.below {w w' : World} {b : Nat} {s : Sp} {z : Int} (h : SeAt w b s z) (hb : Below w.heap.size w w') : SeAt w' b s z :=
  ⟨((bcell hb).1 _ _ h.lt).trans h.c0, ((bcell hb).1 _ _ h.lt).trans h.c1, ((bcell hb).1 _ _ h.lt).trans h.c2, ((bcell hb).1 _ _ h.lt).trans h.c3, ((bcell hb).2 _ _ h.lt).trans h.f0, ((bcell hb).2 _ _ h.lt).trans h.f1, ((bcell hb).2 _ _ h.lt).trans h.f2, ((bcell hb).2 _ _ h.lt).trans h.f3, Nat.lt_of_lt_of_le h.lt hb.size⟩
theorem SeAt.fresh (w : World) (x y : Int) (f : Bool) (z : Int) (t : TypeId) : SeAt (w.alloc (.cells #[.int .i64 x, .int .i64 y, .bool f, .int .i64 z] t)) w.heap.size ⟨x, y, f⟩ z := ⟨by simp, by simp, by simp, by simp, by simp, by simp, by simp, by simp, by simp⟩
theorem SeAt.drew {w : World} {b : Nat} {s : Sp} {z : Int} (h : SeAt w b s z) : SeAt w.drew b s z := ⟨h.c0, h.c1, h.c2, h.c3, h.f0, h.f1, h.f2, h.f3, h.lt⟩
theorem SeAt.alloc {w : World} {b : Nat} {s : Sp} {z : Int} (h : SeAt w b s z) (o : Obj) : SeAt (w.alloc o) b s z := h.below (below_alloc w o)
theorem SeAt.set4 {w : World} {b : Nat} {s : Sp} {z : Int} (h : SeAt w b s z) (v : Sp) (y : Int) : SeAt ((((w.setCell ⟨b, 0, none⟩ (.int .i64 v.x)).setCell ⟨b, 1, none⟩ (.int .i64 v.y)).setCell ⟨b, 2, none⟩ (.bool v.far)).setCell ⟨b, 3, none⟩ (.int .i64 y)) b v y := by
  obtain ⟨h0, h1, h2, h3, f0, f1, f2, f3, hl⟩ := h
  have k := set4_cell (x := .int .i64 v.x) (y := .int .i64 v.y) (z := .bool v.far) (p := .int .i64 y) h0 h1 h2 h3
  exact ⟨k.1, k.2.1, k.2.2.1, k.2.2.2, by simpa using f0, by simpa using f1, by simpa using f2, by simpa using f3, by simpa [World.setCell] using hl⟩
theorem SeAt.zero_of {w : World} {b : Nat} (h0 : w.cell? ⟨b, 0, none⟩ = some (.int .i64 0)) (h1 : w.cell? ⟨b, 1, none⟩ = some (.int .i64 0)) (h2 : w.cell? ⟨b, 2, none⟩ = some (.bool false)) (h3 : w.cell? ⟨b, 3, none⟩ = some (.int .i64 0)) (f0 : w.frozen? ⟨b, 0, none⟩ = false) (f1 : w.frozen? ⟨b, 1, none⟩ = false) (f2 : w.frozen? ⟨b, 2, none⟩ = false) (f3 : w.frozen? ⟨b, 3, none⟩ = false) (hl : b < w.heap.size) : SeAt w b ⟨0, 0, false⟩ 0 := ⟨h0, h1, h2, h3, f0, f1, f2, f3, hl⟩
theorem nocoin0 : NoCoin ⟨0, 0, false⟩ := by
  rcases coin_is ⟨0, 0, false⟩ with ⟨n, h⟩ | h
  · exfalso
    have h2 : sSum ⟨0, 0, false⟩ ⟨0, 0, false⟩ = ⟨0, 0, true⟩ := by rfl
    rw [h, qS_add] at h2
    have h3 : (qS (n + n)).far = true := by rw [h2]
    unfold qS at h3 h
    have h4 := sq_far.mp h3
    have h5 : (sq (4 * n)).far = true := sq_far.mpr (by omega)
    rw [← h] at h5
    exact Bool.noConfusion h5
  · exact h
/-- What is no spot makes no book. -/
theorem bnew_zero (v : Value) (w : World) (hF : FarAt w) (hv : SpSl w v [⟨0, 0, false⟩]) : Calls Tryd.prog 7 #[v] w fun e w' => e = .returned (.tuple #[.pointer none, .iface 69 (.int .i64 3)]) ∧ Below w.heap.size w w' := by
  obtain ⟨a, c, rfl, h⟩ := hv
  exact bnew_n 1 (.iface 69 (.int .i64 3)) a c w ⟨3, rfl⟩ (bcheck_core [⟨0, 0, false⟩] 0 _ a c w hF (by decide) h (Lib.hid fun k _ h => absurd h (Nat.not_lt_zero _)) (by decide) (Lib.hid fun _ => nocoin0) (Lib.hid fun _ => rfl) (Lib.hid fun h => absurd h (by decide)))
theorem bnew_one (n : Int) (A : Sp) (v : Value) (w : World) (hF : FarAt w) (hA : Hid (A = qS n)) (hv : SpSl w v [A]) : Calls Tryd.prog 7 #[v] w fun e w' => ∃ p, e = .returned (.tuple #[.pointer (some ⟨p, 0, none⟩), .nilIface]) ∧ BkAt w' w.heap.size p [n] [false] ∧ Below w.heap.size w w' := by
  rw [hA.out] at hv
  obtain ⟨a, c, rfl, h⟩ := hv
  exact bnew_y [n] a c w (by simp) hF h
theorem bcheck_one (y : Int) (TO : Sp) (b1 : Nat) (w : World) (hF : FarAt w) (hT : Hid (TO = qS y)) (h1 : SpotsAt w b1 0 [TO]) : Calls Tryd.prog 34 #[.slice (some ⟨b1, 0, none⟩) 1 1] w fun e w' => e = .returned .nilIface ∧ Below w.heap.size w w' :=
  bcheck_core [TO] 1 .nilIface _ 1 w hF (by simp) (fun _ => ⟨_, _, rfl, h1⟩) (Lib.hid fun k h _ => ⟨y, by obtain rfl : k = 0 := (by simp at h; omega); exact hT.out⟩) (by simp) (Lib.hid fun h => absurd h (by simp)) (Lib.hid fun h => absurd h (by simp)) (Lib.hid fun _ => rfl)
theorem bcheck_nil (w : World) (hF : FarAt w) : Calls Tryd.prog 34 #[.slice none 0 0] w fun e w' => e = .returned .nilIface ∧ Below w.heap.size w w' :=
  bcheck_core [] 0 .nilIface _ 0 w hF (by simp) (fun h => absurd h (by simp)) (Lib.hid fun k h _ => absurd h (Nat.not_lt_zero _)) (by simp) (Lib.hid fun h => absurd h (by simp)) (Lib.hid fun h => absurd h (by simp)) (Lib.hid fun _ => rfl)
theorem gErr_ok {G : List Bool} {n : Nat} (h : n < G.length) (hg : G.getD n true = false) : gErrB G [] (n : Int) = 0 := by
  unfold gErrB
  rw [if_neg (by omega), if_neg (by rw [Int.toNat_natCast, hg]; simp), if_neg (by simp)]
theorem gErr_gone {G : List Bool} {n : Nat} (h : n < G.length) (hg : G.getD n true = true) : gErrB G [] (n : Int) = 6 := by
  unfold gErrB
  rw [if_neg (by omega), if_pos (by rw [Int.toNat_natCast, hg])]
theorem bex_one (N : List Int) (G : List Bool) (B p n b0 b1 : Nat) (x y : Int) (TO X : Sp) (w : World) (hF : FarAt w) (hBk : BkAt w B p N G) (hNl : N.length ≤ 1000) (hl : n < G.length) (hg : Hid (G.getD n true = false)) (hx : Hid (N.getD n 0 = x)) (hT : Hid (TO = qS y)) (hX : Hid (qS (-x + y) = X)) (h0 : IntsAt w b0 0 [(n : Int)]) (h1 : SpotsAt w b1 0 [TO]) :
    Calls Tryd.prog 9 #[.pointer (some ⟨p, 0, none⟩), .slice (some ⟨b0, 0, none⟩) 1 1, .slice (some ⟨b1, 0, none⟩) 1 1] w fun e w' => e = .returned (.tuple #[spV X, .nilIface]) ∧ Below w.heap.size w w' := by
  refine bex_core N G B p [(n : Int)] [TO] _ _ 1 1 1 0 .nilIface _ w hF hBk (by omega) (by simp) (Nat.le_refl _) (by simp) (fun _ => ⟨_, _, rfl, h0⟩) (fun _ => ⟨_, _, rfl, h1⟩) (by simp) (Nat.le_refl _) (fun i h _ => ?_) (fun h => absurd h (Nat.lt_irrefl _)) (Lib.hid fun w1 hb => bcheck_one y TO b1 w1 (hF.below hb) hT (h1.below hb)) (Lib.hid fun h => absurd h (Nat.lt_irrefl _)) (Lib.hid fun _ => .inr ⟨rfl, [y], by rw [hT.out]; rfl, ?_⟩)
  · obtain rfl : i = 0 := by simp at h; omega
    exact gErr_ok hl hg.out
  · have : outN N [(n : Int)] + [y].sum = -x + y := by unfold outN; simp only [List.map_cons, List.map_nil, Int.toNat_natCast, hx.out, List.sum_cons, List.sum_nil]; omega
    rw [this, hX.out]
theorem bex_gone (N : List Int) (G : List Bool) (B p n b0 : Nat) (w : World) (hF : FarAt w) (hBk : BkAt w B p N G) (hNl : N.length ≤ 1000) (hl : n < G.length) (hg : Hid (G.getD n true = true)) (h0 : IntsAt w b0 0 [(n : Int)]) :
    Calls Tryd.prog 9 #[.pointer (some ⟨p, 0, none⟩), .slice (some ⟨b0, 0, none⟩) 1 1, .slice none 0 0] w fun e w' => e = .returned (.tuple #[spV ⟨0, 0, false⟩, .iface 69 (.int .i64 6)]) ∧ Below w.heap.size w w' :=
  bex_core N G B p [(n : Int)] [] _ _ 1 0 0 6 .nilIface _ w hF hBk (by omega) (by simp) (Nat.le_refl _) (by simp) (fun _ => ⟨_, _, rfl, h0⟩) (fun h => absurd h (by simp)) (by simp) (by simp) (fun i _ h => absurd h (Nat.not_lt_zero _)) (fun h => ⟨gErr_gone hl hg.out, by decide⟩) (Lib.hid fun w1 hb => bcheck_nil w1 (hF.below hb)) (Lib.hid fun _ => rfl) (Lib.hid fun h => absurd h (by simp))
theorem bdo_one (N : List Int) (G : List Bool) (B p n b0 b1 : Nat) (vc vg : Value) (x y : Int) (TO X RS : Sp) (s : Int) (w : World) (hF : FarAt w) (hBk : BkV w B p vc vg N G) (hB0 : B ≤ w.heap.size) (hNl : N.length ≤ 900) (hl : n < G.length) (hg : Hid (G.getD n true = false)) (hx : Hid (N.getD n 0 = x)) (hT : Hid (TO = qS y)) (hX : Hid (qS (-x + y) = X)) (h0 : IntsAt w b0 0 [(n : Int)]) (h1 : SpotsAt w b1 0 [TO]) (hn0 : ¬ inB p vc vg b0) (hn1 : ¬ inB p vc vg b1)
    (s0 : 0 ≤ s) (s1 : s < 1013) (oR : Ok RS) (hq : Hid (Sp.beq (sq (4 * hJ * s)) (sSum RS (sq (4 * (-x + y) * bAsk RS X))) = true)) :
    Calls Tryd.prog 12 #[.pointer (some ⟨p, 0, none⟩), dlV (.slice (some ⟨b0, 0, none⟩) 1 1) (.slice (some ⟨b1, 0, none⟩) 1 1) RS s] w fun e w' => e = .returned .nilIface ∧ Did w w' B p vc vg (N ++ [y]) (G.set n true ++ [false]) := by
  have := hBk.ln
  have h1' : SpotsAt w b1 0 ([y].map qS) := by rw [hT.out] at h1; exact h1
  have hb := bdo_y N [y] G B p vc vg [(n : Int)] [TO] (some ⟨b0, 0, none⟩) (some ⟨b1, 0, none⟩) 1 1 RS s X (-x + y) w hF hBk hB0 (by omega) (Lib.hid hX.out.symm) (by simp) (fun _ => ⟨_, _, rfl, h0, hn0⟩) (fun _ => ⟨_, _, rfl, h1', hn1⟩)
    (fun g hg => by rw [List.mem_singleton] at hg; omega) (Lib.hid fun w1 hb => bex_one N G B p n b0 b1 x y TO X w1 (hF.below hb) ⟨_, _, hBk.below hb⟩ (by omega) hl hg hx hT hX (h0.below hb) (h1.below hb)) (by simp; omega) s0 s1 oR hq
  exact hb
theorem blive_one (N : List Int) (G : List Bool) (B p m : Nat) (w : World) (hBk : BkAt w B p N G) (hN : N.length ≤ 1000) (hm : Hid (liveN G N.length = [(m : Int)])) :
    Calls Tryd.prog 13 #[.pointer (some ⟨p, 0, none⟩)] w fun e w' => ∃ b off cap, e = .returned (.slice (some ⟨b, off, none⟩) 1 cap) ∧ w'.cell? ⟨b, off, none⟩ = some (.int .i64 m) ∧ b < w'.heap.size ∧ Below w.heap.size w w' := by
  refine (blive_c N G B p w hBk (by omega)).mono ?_
  rintro e w' ⟨v, rfl, ho, hb⟩
  rw [hm.out] at ho
  obtain ⟨a, cap, rfl, h'⟩ := own_ints ho rfl
  obtain ⟨b, off, rfl, h''⟩ := h' (by simp)
  exact ⟨b, off, cap, rfl, h''.c 0 (by simp), h''.lt, hb⟩
theorem bcoins_n (N : List Int) (G : List Bool) (B p n : Nat) (w : World) (hBk : BkAt w B p N G) (hN : N.length ≤ 1000) (hn : N.length = n) :
    Calls Tryd.prog 15 #[.pointer (some ⟨p, 0, none⟩)] w fun e w' => ∃ a cap, e = .returned (.slice a n cap) ∧ Below w.heap.size w w' := by
  subst hn
  refine (bcoins_c N G B p w hBk (by omega)).mono ?_
  rintro e w' ⟨v, rfl, ho, hb⟩
  obtain ⟨a, cap, rfl⟩ := own_slB ho
  exact ⟨a, cap, rfl, hb⟩
end Go.Proofs.YtebomakihdjllaaDoor
namespace Go.Proofs.YtebomakihdjllaaDoor
open Go.RowKit
set_option maxRecDepth 100000
set_option linter.unusedVariables false
set_option linter.unusedSimpArgs false
attribute [local go_sem ↓] Go.wp_at_zero Go.wp_at_succ
theorem getD_get (l : List Int) (n : Nat) (h : n < l.length) : l.getD n 0 = l[n] := by rw [List.getD_eq_getElem?_getD, List.getElem?_eq_getElem h]; rfl
theorem below_of (P : World → World → Prop) {w w' : World} (h : P w w') : P w w' := h
theorem fresh_far (w wb : World) (t : TypeId) (hb : Below (w.alloc (.cells #[.int .i64 0, .int .i64 0, .bool false] t)).heap.size (w.alloc (.cells #[.int .i64 0, .int .i64 0, .bool false] t)) wb) : SpAt wb w.heap.size ⟨0, 0, false⟩ := SpAt.below (SpAt.fresh _ _ _ _ _) hb
theorem SpAt.keep {w w' : World} {b : Nat} {s : Sp} (h : SpAt w b s) (hs : w.heap.size ≤ w'.heap.size) (hb : w'.heap[b]? = w.heap[b]?) : SpAt w' b s :=
  ⟨(World.cell?_of_block (a := ⟨b, 0, none⟩) hb).trans h.c0, (World.cell?_of_block (a := ⟨b, 1, none⟩) hb).trans h.c1, (World.cell?_of_block (a := ⟨b, 2, none⟩) hb).trans h.c2, (World.frozen?_of_block (a := ⟨b, 0, none⟩) hb).trans h.f0, (World.frozen?_of_block (a := ⟨b, 1, none⟩) hb).trans h.f1, (World.frozen?_of_block (a := ⟨b, 2, none⟩) hb).trans h.f2, Nat.lt_of_lt_of_le h.lt hs⟩
theorem far_ok : Ok ⟨0, 0, true⟩ := by have := sq_ok 0; rw [sq_zero] at this; exact this
set_option maxHeartbeats 64000000 in
theorem bk_core (vs rs gs cs bs : List Int) (k : Int) (a0 a1 a2 a3 a4 : Option Addr) (c0 c1 c2 c3 c4 : Nat) (w : World) (hF : FarAt w) (hE : ErrAt w)
    (l0 : vs.length ≤ 9223372036854775807) (l1 : rs.length ≤ 9223372036854775807) (l2 : gs.length ≤ 9223372036854775807) (l3 : cs.length ≤ 9223372036854775807) (l4 : bs.length ≤ 9223372036854775807)
    (h0 : 0 < vs.length → ∃ b o, a0 = some ⟨b, o, none⟩ ∧ IntsAt w b o vs) (h1 : 0 < rs.length → ∃ b o, a1 = some ⟨b, o, none⟩ ∧ IntsAt w b o rs) (h2 : 0 < gs.length → ∃ b o, a2 = some ⟨b, o, none⟩ ∧ IntsAt w b o gs) (h3 : 0 < cs.length → ∃ b o, a3 = some ⟨b, o, none⟩ ∧ IntsAt w b o cs) (h4 : 0 < bs.length → ∃ b o, a4 = some ⟨b, o, none⟩ ∧ IntsAt w b o bs)
    (P1 : Sp) (hP1 : Hid (sq (4 * hJ * 1) = P1)) (A1 : Int) (hA1 : Hid (bAsk P1 ⟨0, 0, true⟩ = A1)) :
    Calls Tryd.prog 5 #[.slice a0 vs.length c0, .slice a1 rs.length c1, .slice a2 gs.length c2, .slice a3 cs.length c3, .slice a4 bs.length c4, .int .i64 k] w fun e w' => e = .returned (.bool true) ∧ Below w.heap.size w w' := by
  replace h0 := Lib.hid h0
  replace h1 := Lib.hid h1
  replace h2 := Lib.hid h2
  replace h3 := Lib.hid h3
  replace h4 := Lib.hid h4
  go_enter Tryd.func5, Tryd.ntmps5
  go_wp2_with fail
  refine (bnew_nil _ (hF.below (by repeat (first | exact Below.refl _ _ | refine balloc ?_ _ | refine Below.drew ?_ | refine below_drewN ?_ _ | refine below_set ?_ (by first | omega | (dsimp only; omega)) _)))).mono ?_; rintro e w1 ⟨p1, rfl, hbk1, hb⟩
  obtain ⟨hc1, hf1⟩ := bcell hb
  have z1 := hb.size
  try simp only [World.size_alloc, World.size_setCell, World.size_drew] at z1
  have hB1 : Below w.heap.size w w1 := below_seq (by repeat (first | exact Below.refl _ _ | refine balloc ?_ _ | refine Below.drew ?_ | refine below_drewN ?_ _ | refine below_set ?_ (by first | omega | (dsimp only; omega)) _)) hb
  clear hb
  replace hbk1 := Lib.hid hbk1
  go_wp2_with fail
  refine (btotal_nil _ p1 _ (hF.below (by repeat (first | exact hB1 | exact Below.refl _ _ | refine balloc ?_ _ | refine Below.drew ?_ | refine below_drewN ?_ _ | refine below_set ?_ (by first | omega | (dsimp only; omega)) _))) hbk1.out).mono ?_; rintro e w2 ⟨rfl, hb⟩; replace hbk1 := Lib.hid (hbk1.out.below hb)
  obtain ⟨hc2, hf2⟩ := bcell hb
  have z2 := hb.size
  try simp only [World.size_alloc, World.size_setCell, World.size_drew] at z2
  have hB2 : Below w.heap.size w w2 := below_seq (by repeat (first | exact hB1 | exact Below.refl _ _ | refine balloc ?_ _ | refine Below.drew ?_ | refine below_drewN ?_ _ | refine below_set ?_ (by first | omega | (dsimp only; omega)) _)) hb
  clear hb
  go_wp2_with fail
  refine (blive_n [] [] _ p1 0 _ hbk1.out (by decide) (Lib.hid rfl)).mono ?_; rintro e w3 ⟨al, cl, rfl, hb⟩; replace hbk1 := Lib.hid (hbk1.out.below hb)
  obtain ⟨hc3, hf3⟩ := bcell hb
  have z3 := hb.size
  try simp only [World.size_alloc, World.size_setCell, World.size_drew] at z3
  have hB3 : Below w.heap.size w w3 := below_seq (by repeat (first | exact hB2 | exact Below.refl _ _ | refine balloc ?_ _ | refine Below.drew ?_ | refine below_drewN ?_ _ | refine below_set ?_ (by first | omega | (dsimp only; omega)) _)) hb
  clear hb
  go_wp2_with fail
  refine (bclose_y 0 1 ⟨0, 0, true⟩ P1 A1 1 _ (hF.below (by repeat (first | exact hB3 | exact Below.refl _ _ | refine balloc ?_ _ | refine Below.drew ?_ | refine below_drewN ?_ _ | refine below_set ?_ (by first | omega | (dsimp only; omega)) _))) (by decide) (by decide) (by decide) (by decide) far_ok hP1 hA1 (by rw [Int.mul_zero]; rfl)).mono ?_; rintro e w4 ⟨rfl, hb⟩; replace hbk1 := Lib.hid ((hbk1.out.below hb).below (below_alloc _ (.cells #[.int .i64 P1.x, .int .i64 P1.y, .bool P1.far, .int .i64 1] 36)))
  obtain ⟨hc4, hf4⟩ := bcell hb
  have z4 := hb.size
  try simp only [World.size_alloc, World.size_setCell, World.size_drew] at z4
  have hB4 : Below w.heap.size w w4 := below_seq (by repeat (first | exact hB3 | exact Below.refl _ _ | refine balloc ?_ _ | refine Below.drew ?_ | refine below_drewN ?_ _ | refine below_set ?_ (by first | omega | (dsimp only; omega)) _)) hb
  clear hb
  have hB4' := balloc hB4 (.cells #[.int .i64 P1.x, .int .i64 P1.y, .bool P1.far, .int .i64 1] 36)
  have hDo := Lib.hid (bdo_nil [] [] w.heap.size p1 P1 _ (hF.below hB4') hbk1.out hB4'.size (by decide) hP1)
  replace hB4' := Lib.hid hB4'
  go_wp2_with fail
  refine hDo.out.mono ?_; rintro e w5 ⟨rfl, -, hb⟩
  have hW5 := Lib.hid (hB4'.out.trans hb)
  clear hb hDo hB4' hbk1 hc1 hf1 hc2 hf2 hc3 hf3 hc4 hf4 z1 z2 z3 z4 hB1 hB2 hB3 hB4
  have hF5 := Lib.hid (hF.below hW5.out)
  have hE5 := Lib.hid (hE.below hW5.out)
  replace h0 : Hid (∀ w' : World, Below w5.heap.size w5 w' → 0 < vs.length → ∃ b o, a0 = some ⟨b, o, none⟩ ∧ IntsAt w' b o vs ∧ b < w5.heap.size) := Lib.hid fun w' hb h => by obtain ⟨b, o, e, hs⟩ := h0.out h; exact ⟨b, o, e, (hs.below hW5.out).below hb, (hs.below hW5.out).lt⟩
  replace h1 : Hid (∀ w' : World, Below w5.heap.size w5 w' → 0 < rs.length → ∃ b o, a1 = some ⟨b, o, none⟩ ∧ IntsAt w' b o rs ∧ b < w5.heap.size) := Lib.hid fun w' hb h => by obtain ⟨b, o, e, hs⟩ := h1.out h; exact ⟨b, o, e, (hs.below hW5.out).below hb, (hs.below hW5.out).lt⟩
  replace h2 : Hid (∀ w' : World, Below w5.heap.size w5 w' → 0 < gs.length → ∃ b o, a2 = some ⟨b, o, none⟩ ∧ IntsAt w' b o gs ∧ b < w5.heap.size) := Lib.hid fun w' hb h => by obtain ⟨b, o, e, hs⟩ := h2.out h; exact ⟨b, o, e, (hs.below hW5.out).below hb, (hs.below hW5.out).lt⟩
  replace h3 : Hid (∀ w' : World, Below w5.heap.size w5 w' → 0 < cs.length → ∃ b o, a3 = some ⟨b, o, none⟩ ∧ IntsAt w' b o cs ∧ b < w5.heap.size) := Lib.hid fun w' hb h => by obtain ⟨b, o, e, hs⟩ := h3.out h; exact ⟨b, o, e, (hs.below hW5.out).below hb, (hs.below hW5.out).lt⟩
  replace h4 : Hid (∀ w' : World, Below w5.heap.size w5 w' → 0 < bs.length → ∃ b o, a4 = some ⟨b, o, none⟩ ∧ IntsAt w' b o bs ∧ b < w5.heap.size) := Lib.hid fun w' hb h => by obtain ⟨b, o, e, hs⟩ := h4.out h; exact ⟨b, o, e, (hs.below hW5.out).below hb, (hs.below hW5.out).lt⟩
  go_wp2_with fail
  go_loopw [16, 17] (fun o i wr => ∃ n : Nat, n ≤ 6 ∧ n ≤ vs.length ∧ n ≤ rs.length ∧ i = .int .i64 n ∧ okV vs rs n ∧ wr.ownsRow w5.heap.size 23 3 o n (spCells ((coinN vs rs n).map qS)) ∧ Below w5.heap.size w5 wr) (fun _ i _ => 6 - (intOf i).toNat)
  case atStart => exact ⟨0, by omega, Nat.zero_le _, Nat.zero_le _, rfl, fun j h => absurd h (Nat.not_lt_zero _), World.ownsRow_nil _ _ _ _, Below.refl _ _⟩
  case round =>
    obtain ⟨n, hn6, hnv, hnr, rfl, hok, r1, hb⟩ := hrel
    replace hok := Lib.hid hok
    replace r1 := Lib.hid r1
    obtain ⟨C, hC⟩ : ∃ C, decide (n < vs.length ∧ n < rs.length ∧ n < 6) = C := ⟨_, rfl⟩
    go_upto_region 9 with fail
    go_cut [83] from 70 to 82 (fun s83 wx => s83 = .bool C ∧ wx = wr)
    case first =>
      clear r1 hok
      by_cases q1 : n < vs.length
      · by_cases q2 : n < rs.length
        · by_cases q3 : n < 6
          · rw [decide_eq_true ⟨q1, q2, q3⟩] at hC
            subst hC
            have g3 : decide ((n : Int) < 6) = true := by rw [decide_eq_true_iff]; omega
            go_wp2_with fail
            go_meet
            exact ⟨rfl, rfl⟩
          · rw [decide_eq_false (fun h => q3 h.2.2)] at hC
            subst hC
            have g3 : decide ((n : Int) < 6) = false := by rw [decide_eq_false_iff_not]; omega
            go_wp2_with fail
            go_meet
            exact ⟨rfl, rfl⟩
        · rw [decide_eq_false (fun h => q2 h.2.1)] at hC
          subst hC
          go_wp2_with fail
          go_meet
          exact ⟨rfl, rfl⟩
      · rw [decide_eq_false (fun h => q1 h.1)] at hC
        subst hC
        go_wp2_with fail
        go_meet
        exact ⟨rfl, rfl⟩
    case rest =>
    obtain ⟨rfl, hwx⟩ := hcut
    obtain ⟨wA, rfl⟩ : ∃ x : World, x = wc := ⟨_, rfl⟩
    subst hwx
    have hbr := Lib.hid hb
    clear hb
    have hFA := Lib.hid (hF5.out.below hbr.out)
    cases C
    · clear hC
      have hWA := Lib.hid (hW5.out.trans (hbr.out.mono hW5.out.size))
      have hEA := Lib.hid (hE.below hWA.out)
      have g3 := own_spots r1.out (by rw [List.length_map, coinN_len])
      obtain ⟨ac, cc, rfl⟩ := own_slB r1.out
      have hcl : ((coinN vs rs n).map qS).length = n := by rw [List.length_map, coinN_len]
      have hNew : Calls Tryd.prog 7 #[.slice ac n cc] wA fun e w' => ∃ p, e = .returned (.tuple #[.pointer (some ⟨p, 0, none⟩), .nilIface]) ∧ BkAt w' wA.heap.size p (coinN vs rs n) (List.replicate n false) ∧ Below wA.heap.size wA w' := by
        have h := bnew_y (coinN vs rs n) ac cc wA (by rw [coinN_len]; omega) hFA.out (by
          obtain ⟨a, c, e, hs⟩ := g3
          simp only [Value.slice.injEq] at e
          obtain ⟨rfl, -, -⟩ := e
          exact hs)
        rw [coinN_len] at h
        exact h
      replace hNew := Lib.hid hNew
      clear g3 r1 hcl
      go_wp2_with fail
      refine hNew.out.mono ?_; rintro e wB ⟨p, rfl, hbk, hb⟩
      replace hbk := Lib.hid hbk
      have hbk0 : wA.heap.size ≤ wB.heap.size := hb.size
      have hWB := Lib.hid (below_seq hWA.out hb)
      have hbB := Lib.hid (below_seq hbr.out hb)
      clear hNew hb hbr
      go_wp2_with fail
      have hI0 : InAt ((wB.alloc (.cells #[.bool false, .bool false, .bool false, .bool false, .bool false, .bool false] 66)).alloc (.cells #[.slice none 0 0, .slice none 0 0, .int .i64 0, .int .i64 0, .bool false, .int .i64 0] 42)) wB.heap.size 6 [] := (InAt.fresh wB 6 #[.bool false, .bool false, .bool false, .bool false, .bool false, .bool false] 66 rfl).keep (by simp) ((below_alloc _ _).block _ (by simp))
      have hD0 : DlAt ((wB.alloc (.cells #[.bool false, .bool false, .bool false, .bool false, .bool false, .bool false] 66)).alloc (.cells #[.slice none 0 0, .slice none 0 0, .int .i64 0, .int .i64 0, .bool false, .int .i64 0] 42)) (wB.heap.size + 1) (.slice none 0 0) (.slice none 0 0) ⟨0, 0, false⟩ 0 := by have := DlAt.fresh (wB.alloc (.cells #[.bool false, .bool false, .bool false, .bool false, .bool false, .bool false] 66)) 42; simpa using this
      have hBC := balloc (below_alloc wB (.cells #[.bool false, .bool false, .bool false, .bool false, .bool false, .bool false] 66)) (.cells #[.slice none 0 0, .slice none 0 0, .int .i64 0, .int .i64 0, .bool false, .int .i64 0] 42)
      have hzC : ((wB.alloc (.cells #[.bool false, .bool false, .bool false, .bool false, .bool false, .bool false] 66)).alloc (.cells #[.slice none 0 0, .slice none 0 0, .int .i64 0, .int .i64 0, .bool false, .int .i64 0] 42)).heap.size = wB.heap.size + 2 := by simp
      replace hI0 := Lib.hid hI0
      replace hD0 := Lib.hid hD0
      replace hBC := Lib.hid hBC
      generalize (wB.alloc (.cells #[.bool false, .bool false, .bool false, .bool false, .bool false, .bool false] 66)).alloc (.cells #[.slice none 0 0, .slice none 0 0, .int .i64 0, .int .i64 0, .bool false, .int .i64 0] 42) = wC at *
      have hWC := Lib.hid (below_seq hWB.out hBC.out)
      have hbC := Lib.hid (below_seq hbB.out hBC.out)
      have hw5B : w5.heap.size ≤ wB.heap.size := hbB.out.size
      have hw0 : w.heap.size ≤ wA.heap.size := hWA.out.size
      clear hWB hbB hWA hEA hFA hE5 hF5 hW5
      go_loopw [22, 23, 26] (fun v r i wr => ∃ (m : Nat) (ps : List Nat) (vgn : Value), m ≤ gs.length ∧ i = .int .i64 m ∧ v = .int .i64 (-(psum vs ps)) ∧ r = .int .i64 (-(psum rs ps)) ∧ ps.Nodup ∧ (∀ p ∈ ps, p < n) ∧ InAt wr wB.heap.size 6 ps ∧ DlAt wr (wB.heap.size + 1) vgn (.slice none 0 0) ⟨0, 0, false⟩ 0 ∧ wr.ownsRow (wB.heap.size + 2) 3 1 vgn ps.length ((nI ps).map (.int .i64)) ∧ Below wB.heap.size wC wr) (fun _ _ i _ => gs.length - (intOf i).toNat)
      case atStart => exact ⟨0, [], _, Nat.zero_le _, rfl, rfl, rfl, List.nodup_nil, fun p h => absurd h List.not_mem_nil, hI0.out, hD0.out, World.ownsRow_nil _ _ _ _, Below.refl _ _⟩
      case round =>
        clear hI0 hD0
        obtain ⟨m, ps, vgn, hm, rfl, rfl, rfl, hnd, hps, hI, hD, hown, hb⟩ := hrel
        replace hown := Lib.hid hown
        replace hnd := Lib.hid hnd
        replace hps := Lib.hid hps
        replace hI := Lib.hid hI
        have hD1 := hD.lt
        replace hD := Lib.hid hD
        replace hb := Lib.hid hb
        by_cases hlt : m < gs.length
        · obtain ⟨b2, f2, rfl, x2, hx2⟩ := h2.out _ hbC.out (by omega)
          have hb2 : b2 < wB.heap.size := Nat.lt_of_lt_of_le hx2 hw5B
          have kk2 := x2.c m hlt
          have k1 := (hb.out.cell (p := ⟨b2, f2 + m, none⟩) hb2).trans kk2
          have k2 : b2 < wr.heap.size := by omega
          have e1 : (m : Int) < (gs.length : Int) := by omega
          clear x2 hx2
          generalize gs[m] = g at *
          by_cases p0 : 0 ≤ g
          case neg =>
            have g1 : decide (0 ≤ g) = false := decide_eq_false p0
            clear p0
            go_wp2_with fail
            go_roundw
            case rel => exact ⟨m + 1, ps, _, by omega, by go_num, rfl, rfl, hnd.out, hps.out, hI.out, hD.out, hown.out, hb.out⟩
            case measure => simp [intOf]; omega
          obtain ⟨q, rfl⟩ : ∃ q : Nat, g = (q : Int) := ⟨g.toNat, by omega⟩
          by_cases p3 : q < n
          case neg =>
            have g1 : decide (q < n) = false := decide_eq_false p3
            clear p3
            go_wp2_with fail
            go_roundw
            case rel => exact ⟨m + 1, ps, _, by omega, by go_num, rfl, rfl, hnd.out, hps.out, hI.out, hD.out, hown.out, hb.out⟩
            case measure => simp [intOf]; omega
          have g1 : decide (q < n) = true := decide_eq_true p3
          have hq6 : q < 6 := by omega
          have j1 := hI.out.c q hq6
          have j2 := hI.out.f q hq6
          have j3 := hI.out.lt
          by_cases p4 : q ∈ ps
          · rw [decide_eq_true p4] at j1
            clear p4
            go_wp2_with fail
            go_roundw
            case rel => exact ⟨m + 1, ps, _, by omega, by go_num, rfl, rfl, hnd.out, hps.out, hI.out, hD.out, hown.out, hb.out⟩
            case measure => simp [intOf]; omega
          · rw [decide_eq_false p4] at j1
            obtain ⟨b0, f0, rfl, x0, hx0⟩ := h0.out _ hbC.out (by omega)
            obtain ⟨b1, f1, rfl, x1, hx1⟩ := h1.out _ hbC.out (by omega)
            have hb0 : b0 < wB.heap.size := Nat.lt_of_lt_of_le hx0 hw5B
            have hb1 : b1 < wB.heap.size := Nat.lt_of_lt_of_le hx1 hw5B
            have kk0 := x0.c q (by omega)
            have kk1 := x1.c q (by omega)
            have hkv := hok.out q p3
            have bd1 := psum_bd vs n (fun j hj => ⟨(hok.out j hj).1, (hok.out j hj).2.1⟩) ps hps.out
            have bd2 := psum_bd rs n (fun j hj => ⟨(hok.out j hj).2.2.1, (hok.out j hj).2.2.2⟩) ps hps.out
            have bd3 := nodup_le n ps hnd.out hps.out
            have ps1 := psum_snoc vs ps q
            have ps2 := psum_snoc rs ps q
            rw [getD_get vs q (by omega)] at ps1 hkv
            rw [getD_get rs q (by omega)] at ps2 hkv
            clear x0 x1 hx0 hx1
            have q1 : (q : Int) < (vs.length : Int) := by omega
            have q2 : (q : Int) < (rs.length : Int) := by omega
            generalize vs[q] = v at *
            generalize rs[q] = r at *
            have hnd2 : Hid ((ps ++ [q]).Nodup) := Lib.hid (by rw [List.nodup_append]; exact ⟨hnd.out, by simp, fun a ha b hb' => by simp at hb'; subst hb'; exact fun e => p4 (e ▸ ha)⟩)
            have hps2 : Hid (∀ p ∈ ps ++ [q], p < n) := Lib.hid (fun p hp => by rcases List.mem_append.mp hp with h | h; exact hps.out p h; simp at h; subst h; exact p3)
            have hI2 := Lib.hid (hI.out.put q hq6)
            have hB1 := Lib.hid (hb.out.setCell (p := ⟨wB.heap.size, q, none⟩) (Nat.le_refl _) (.bool true))
            have how1 := Lib.hid (ownsRow_setCell_below hown.out (a := ⟨wB.heap.size, q, none⟩) (by show wB.heap.size < _; omega) (.bool true))
            have hD2 := Lib.hid (hD.out.keep (w' := wr.setCell ⟨wB.heap.size, q, none⟩ (.bool true)) (by simp) (heap_setCell_other _ _ _ _ (by show _ ≠ wB.heap.size; omega)))
            have wv : IntKind.i64.wrap (-psum vs ps - v) = -psum vs ps - v := by rw [IntKind.wrap_i64]; omega
            have wr' : IntKind.i64.wrap (-psum rs ps - r) = -psum rs ps - r := by rw [IntKind.wrap_i64]; omega
            have hq6' : (q : Int) < 6 := by omega
            clear bd1 bd2 hkv hown hI hD hps hnd
            replace ps1 := Lib.hid ps1
            replace ps2 := Lib.hid ps2
            replace p4 := Lib.hid p4
            go_upto_region 27 with fail
            generalize wr.setCell ⟨wB.heap.size, q, none⟩ (.bool true) = w1 at *
            have hz1 := hB1.out.size
            have d0 := hD2.out.c0
            have d1 := hD2.out.f0
            have d2 := hD2.out.lt
            have m1 := (hB1.out.cell (p := ⟨b2, f2 + m, none⟩) hb2).trans kk2
            have m2 : b2 < w1.heap.size := by omega
            clear j1 j2 j3 k1 k2
            go_wp2_with fail
            have hne : ¬ vgn.ownBlock = some (wB.heap.size + 1) := fun e => by have := (how1.out.lt _ e).1; omega
            have hne0 : ¬ vgn.ownBlock = some wB.heap.size := fun e => by have := (how1.out.lt _ e).1; omega
            go_region_law (refine stepi_app (by rfl) _ _ _ (by rfl) (by kernel_rfl) (wB.heap.size + 2) _ (nI ps) ps.length (by rfl) (by repeat (first | exact how1.out | refine World.ownsRow.alloc ?_ _ | refine World.ownsRow.drew ?_)) (nI_len ps) (by omega) (by simp only [World.size_alloc, World.size_drew]; omega) _ (q : Int) (by rfl) (by go_simp) ?_; intro v' w4 hown' hgrow hloc; obtain ⟨av, cv, rfl⟩ := own_slB hown'; have hbt : But (fun k => vgn.ownBlock = some k) w1 w4 := (But.of_below (by repeat (first | exact Below.refl _ _ | refine balloc ?_ _ | refine Below.drew ?_))).trans (But.of_grown hgrow (fun k hk => hk)); have n0 := (hbt.cell d2 hne 0).trans d0; have n1 := (World.frozen?_of_block (a := ⟨wB.heap.size + 1, 0, none⟩) (hbt.block _ d2 hne)).trans d1; have n2 := Nat.lt_of_lt_of_le d2 hbt.size; replace hown' := Lib.hid hown'; replace hbt := Lib.hid hbt; clear hgrow hloc)
            all_goals
              have fI := Lib.hid (hI2.out.keep (w' := w4.setCell ⟨wB.heap.size + 1, 0, none⟩ (.slice av (ps.length + 1) cv)) (by simpa using hbt.out.size) ((heap_setCell_other _ _ _ _ (by show _ ≠ wB.heap.size + 1; omega)).trans (hbt.out.block _ hI2.out.lt hne0)))
              have fD := Lib.hid ((hD2.out.keep hbt.out.size (hbt.out.block _ d2 hne)).setg (.slice av (ps.length + 1) cv))
              have fO := Lib.hid (ownsRow_setCell_below hown'.out (a := ⟨wB.heap.size + 1, 0, none⟩) (by show wB.heap.size + 1 < _; omega) (.slice av (ps.length + 1) cv))
              have fB : Below wB.heap.size wC (w4.setCell ⟨wB.heap.size + 1, 0, none⟩ (.slice av (ps.length + 1) cv)) := (hB1.out.trans (hbt.out.below (by omega) (fun k hk => by have := (how1.out.lt _ hk).1; omega))).setCell (p := ⟨wB.heap.size + 1, 0, none⟩) (by show wB.heap.size ≤ wB.heap.size + 1; omega) _
              generalize w4.setCell ⟨wB.heap.size + 1, 0, none⟩ (.slice av (ps.length + 1) cv) = w5' at *
              clear n0 n1 n2 m1 m2 d0 d1 d2 hI2 hD2 hown' hbt how1
              have m1 := (fB.cell (p := ⟨b2, f2 + m, none⟩) hb2).trans kk2
              have m2 : b2 < w5'.heap.size := by have := fB.size; omega
              have m3 := (fB.cell (p := ⟨b0, f0 + q, none⟩) hb0).trans kk0
              have m4 : b0 < w5'.heap.size := by have := fB.size; omega
              have m5 := (fB.cell (p := ⟨b1, f1 + q, none⟩) hb1).trans kk1
              have m6 : b1 < w5'.heap.size := by have := fB.size; omega
              go_wp2
              go_roundw
              case rel => exact ⟨m + 1, ps ++ [q], _, by omega, by go_num, by rw [ps1.out, Int.neg_add]; rfl, by rw [ps2.out, Int.neg_add]; rfl, hnd2.out, hps2.out, fI.out, fD.out, by rw [List.length_append, nI_snoc]; exact fO.out, fB⟩
              case measure => simp [intOf]; omega
        · obtain rfl : m = gs.length := by omega
          obtain ⟨wE, rfl⟩ : ∃ x : World, x = wr := ⟨_, rfl⟩
          have bd1 := psum_bd vs n (fun j hj => ⟨(hok.out j hj).1, (hok.out j hj).2.1⟩) ps hps.out
          have bd2 := psum_bd rs n (fun j hj => ⟨(hok.out j hj).2.2.1, (hok.out j hj).2.2.2⟩) ps hps.out
          have bd3 := nodup_le n ps hnd.out hps.out
          have hbE := Lib.hid (hBC.out.trans hb.out)
          have hwB : w.heap.size ≤ wB.heap.size := Nat.le_trans hw0 hbk0
          have hWE := Lib.hid (hWC.out.trans (hb.out.mono hwB))
          have hb5 := Lib.hid (hbC.out.trans (hb.out.mono hw5B))
          have k3 : Hid (∀ w' : World, Below wB.heap.size wE w' → 0 < cs.length → ∃ b o, a3 = some ⟨b, o, none⟩ ∧ IntsAt w' b o cs ∧ b < wB.heap.size) := Lib.hid fun w' hb h => by obtain ⟨b, o, e, hs, hl⟩ := h3.out w' (hb5.out.trans (hb.mono hw5B)) h; exact ⟨b, o, e, hs, Nat.lt_of_lt_of_le hl hw5B⟩
          have k4 : Hid (∀ w' : World, Below wB.heap.size wE w' → 0 < bs.length → ∃ b o, a4 = some ⟨b, o, none⟩ ∧ IntsAt w' b o bs ∧ b < wB.heap.size) := Lib.hid fun w' hb h => by obtain ⟨b, o, e, hs, hl⟩ := h4.out w' (hb5.out.trans (hb.mono hw5B)) h; exact ⟨b, o, e, hs, Nat.lt_of_lt_of_le hl hw5B⟩
          have hzE : wB.heap.size + 2 ≤ wE.heap.size := by have := hb.out.size; omega
          obtain ⟨pv, hpv⟩ : ∃ x, -psum vs ps = x := ⟨_, rfl⟩
          obtain ⟨pr, hpr⟩ : ∃ x, -psum rs ps = x := ⟨_, rfl⟩
          have bv1 : -7000 ≤ pv ∧ pv ≤ 0 := by omega
          have bv2 : -7000 ≤ pr ∧ pr ≤ 0 := by omega
          clear bd1 bd2 hI h0 h1 h2 h3 h4 hb hWC hbC hBC hb5 hlt hm hzC
          go_wp2_with fail
          rw [hpv, hpr]
          replace hpv := Lib.hid hpv
          replace hpr := Lib.hid hpr
          go_loopw [22, 23, 27] (fun v r i wr => ∃ (m : Nat) (vn : Value), m ≤ 5 ∧ m ≤ cs.length ∧ m ≤ bs.length ∧ i = .int .i64 m ∧ v = .int .i64 (pv + tsum cs m) ∧ r = .int .i64 (pr + tsum bs m) ∧ okV cs bs m ∧ DlAt wr (wB.heap.size + 1) vgn vn ⟨0, 0, false⟩ 0 ∧ wr.ownsRow wE.heap.size 23 3 vn m (spCells ((coinN cs bs m).map qS)) ∧ But (fun k => k = wB.heap.size + 1) wE wr) (fun _ _ i _ => 5 - (intOf i).toNat)
          case atStart => exact ⟨0, _, by omega, Nat.zero_le _, Nat.zero_le _, rfl, by rw [show tsum cs 0 = 0 from rfl, Int.add_zero], by rw [show tsum bs 0 = 0 from rfl, Int.add_zero], fun j h => absurd h (Nat.not_lt_zero _), hD.out, World.ownsRow_nil _ _ _ _, But.refl _ _⟩
          case round =>
            clear hD
            obtain ⟨m, vn, hm5, hmv, hmr, rfl, rfl, rfl, hokm, hD, r2, hbt⟩ := hrel
            replace hokm := Lib.hid hokm
            replace r2 := Lib.hid r2
            have hDl := hD.lt
            replace hD := Lib.hid hD
            replace hbt := Lib.hid hbt
            obtain ⟨C, hC⟩ : ∃ C, decide (m < cs.length ∧ m < bs.length ∧ m < 5) = C := ⟨_, rfl⟩
            go_upto_region 31 with fail
            go_cut [185] from 172 to 184 (fun s185 wx => s185 = .bool C ∧ wx = wr)
            case first =>
              clear r2 hokm hD hbt hown hnd hps hok hbk k3 k4 hWE hbE
              by_cases q1 : m < cs.length
              · by_cases q2 : m < bs.length
                · by_cases q3 : m < 5
                  · rw [decide_eq_true ⟨q1, q2, q3⟩] at hC
                    subst hC
                    have g3 : decide ((m : Int) < 5) = true := by rw [decide_eq_true_iff]; omega
                    go_wp2_with fail
                    go_meet
                    exact ⟨rfl, rfl⟩
                  · rw [decide_eq_false (fun h => q3 h.2.2)] at hC
                    subst hC
                    have g3 : decide ((m : Int) < 5) = false := by rw [decide_eq_false_iff_not]; omega
                    go_wp2_with fail
                    go_meet
                    exact ⟨rfl, rfl⟩
                · rw [decide_eq_false (fun h => q2 h.2.1)] at hC
                  subst hC
                  go_wp2_with fail
                  go_meet
                  exact ⟨rfl, rfl⟩
              · rw [decide_eq_false (fun h => q1 h.1)] at hC
                subst hC
                go_wp2_with fail
                go_meet
                exact ⟨rfl, rfl⟩
            case rest =>
            obtain ⟨rfl, hwx⟩ := hcut
            obtain ⟨wG, rfl⟩ : ∃ x : World, x = wc := ⟨_, rfl⟩
            subst hwx
            have hbG : Below wB.heap.size wE wG := hbt.out.below (by omega) (fun k hk => by omega)
            have hFG := Lib.hid (hF.below (hWE.out.trans (hbG.mono hwB)))
            cases C
            · clear hC
              obtain ⟨vc, vg, hv0⟩ := hbk.out
              have hN : (coinN vs rs n).length = n := coinN_len vs rs n
              have hM : (coinN cs bs m).length = m := coinN_len cs bs m
              have hownG : wG.ownsRow (wB.heap.size + 2) 3 1 vgn ps.length ((nI ps).map (Value.int .i64)) := own_keep hown.out (fun k hk => hbt.out.block k (hown.out.lt k hk).2 (fun e => by have := (hown.out.lt k hk).1; omega))
              obtain ⟨ag, cg, rfl, hcg, hcg2, hgi⟩ := own_intsB hownG (nI_len ps).symm
              obtain ⟨an, cn, rfl, hci⟩ := own_spotsB r2.out (by rw [List.length_map, hM])
              have hnum := deal_num vs rs cs bs n m ps hps.out
              rw [hpv.out, hpr.out] at hnum
              have tb1 := tsum_bd cs m (fun j hj => ⟨(hokm.out j hj).1, (hokm.out j hj).2.1⟩)
              have tb2 := tsum_bd bs m (fun j hj => ⟨(hokm.out j hj).2.2.1, (hokm.out j hj).2.2.2⟩)
              obtain ⟨nv, hnv'⟩ : ∃ x, pv + tsum cs m = x := ⟨_, rfl⟩
              obtain ⟨nr, hnr'⟩ : ∃ x, pr + tsum bs m = x := ⟨_, rfl⟩
              rw [hnv', hnr'] at hnum ⊢
              have bnv : -20000 ≤ nv ∧ nv ≤ 20000 := by omega
              have bnr : -20000 ≤ nr ∧ nr ≤ 20000 := by omega
              obtain ⟨x, hx⟩ : ∃ x, outN (coinN vs rs n) (nI ps) + (coinN cs bs m).sum = x := ⟨_, rfl⟩
              have hxv : x = nv + hJ * nr := by rw [← hx]; exact hnum
              obtain ⟨X, hX⟩ : ∃ X, qS x = X := ⟨_, rfl⟩
              have oX : Ok X := by rw [← hX]; exact sq_ok _
              have hdt := deal_tot (coinN vs rs n) (coinN cs bs m) (List.replicate n false) ps (by rw [List.length_replicate, hN]) hnd.out (fun q hq => ⟨by rw [hN]; exact hps.out q hq, getD_fresh n q (hps.out q hq)⟩)
              rw [hx] at hdt
              generalize coinN vs rs n = N at *
              generalize coinN cs bs m = M at *
              have hLB : Hid (∀ w1, But (fun k => k = wB.heap.size + 1) wG w1 → Below wB.heap.size wB w1) := Lib.hid fun w1 h => (hbE.out.trans hbG).trans (h.below (by omega) (fun k hk => by omega))
              have hvA : Hid (∀ w1, But (fun k => k = wB.heap.size + 1) wG w1 → BkV w1 wA.heap.size p vc vg N (List.replicate n false)) := Lib.hid fun w1 h => hv0.below (hLB.out w1 h)
              have hWA' : Hid (∀ w1, But (fun k => k = wB.heap.size + 1) wG w1 → Below w.heap.size w w1) := Lib.hid fun w1 h => hWE.out.trans ((hbG.trans (h.below (by omega) (fun k hk => by omega))).mono hwB)
              have hin : Hid (∀ k, wB.heap.size ≤ k → ¬ inB p vc vg k) := Lib.hid fun k hk h => by have := (hv0.blk k h).2; omega
              have hg1 : Hid (∀ w1, But (fun k => k = wB.heap.size + 1) wG w1 → 0 < (nI ps).length → ∃ b o, ag = some ⟨b, o, none⟩ ∧ IntsAt w1 b o (nI ps) ∧ wB.heap.size + 2 ≤ b) := Lib.hid fun w1 h h0 => by obtain ⟨b, o, e, hs, hl⟩ := hgi h0; exact ⟨b, o, e, hs.but h (by omega), hl⟩
              have hc1' : Hid (∀ w1, But (fun k => k = wB.heap.size + 1) wG w1 → 0 < (M.map qS).length → ∃ b o, an = some ⟨b, o, none⟩ ∧ SpotsAt w1 b o (M.map qS) ∧ wB.heap.size + 2 ≤ b) := Lib.hid fun w1 h h0 => by obtain ⟨b, o, e, hs, hl⟩ := hci h0; exact ⟨b, o, e, hs.but h (by omega), by omega⟩
              have hm12 : m ≤ 12 := by omega
              have hn900 : n ≤ 900 := by omega
              have hEx : Hid (∀ w1, But (fun k => k = wB.heap.size + 1) wG w1 → Calls Tryd.prog 9 #[.pointer (some ⟨p, 0, none⟩), .slice ag ps.length cg, .slice an m cn] w1 fun e w' => e = .returned (.tuple #[spV X, .nilIface]) ∧ Below w1.heap.size w1 w') := Lib.hid fun w1 h => bex_all N M wA.heap.size p n m ps ag an cg cn X w1 (hF.below (hWA'.out w1 h)) ⟨_, _, hvA.out w1 h⟩ hN hn900 hM hm12 hnd.out hps.out hcg hcg2 (Lib.hid (by rw [hx]; exact hX)) (fun h0 => by obtain ⟨b, o, e, hs, -⟩ := hg1.out w1 h h0; exact ⟨b, o, e, hs⟩) (fun h0 => by obtain ⟨b, o, e, hs, -⟩ := hc1'.out w1 h h0; exact ⟨b, o, e, hs⟩)
              obtain ⟨T, hT⟩ : ∃ T, qS (totN N (List.replicate n false) N.length) = T := ⟨_, rfl⟩
              have oT : Ok T := by rw [← hT]; exact sq_ok _
              have kT : Hid (∀ w1, But (fun k => k = wB.heap.size + 1) wG w1 → Calls Tryd.prog 14 #[.pointer (some ⟨p, 0, none⟩)] w1 fun e w' => e = .returned (spV T) ∧ Below w1.heap.size w1 w') := Lib.hid fun w1 h => by
                have := btotal_c N (List.replicate n false) wA.heap.size p w1 (hF.below (hWA'.out w1 h)) ⟨_, _, hvA.out w1 h⟩ (by omega)
                rw [hT] at this
                exact this
              have kL : Hid (∀ w1, But (fun k => k = wB.heap.size + 1) wG w1 → Calls Tryd.prog 13 #[.pointer (some ⟨p, 0, none⟩)] w1 fun e w' => ∃ a cap, e = .returned (.slice a n cap) ∧ Below w1.heap.size w1 w') := Lib.hid fun w1 h => blive_n N (List.replicate n false) wA.heap.size p n w1 ⟨_, _, hvA.out w1 h⟩ (by omega) (Lib.hid (by rw [hN]; exact liveN_fresh n n (Nat.le_refl _)))
              have d0 := hD.out.c0
              have d1 := hD.out.c1
              have dl := hD.out.lt
              replace hx := Lib.hid hx
              replace hX := Lib.hid hX
              replace hT := Lib.hid hT
              replace hdt := Lib.hid hdt
              replace hN := Lib.hid hN
              replace hM := Lib.hid hM
              replace hcg := Lib.hid hcg
              replace hcg2 := Lib.hid hcg2
              replace hnum := Lib.hid hnum
              replace hxv := Lib.hid hxv
              replace hnv' := Lib.hid hnv'
              replace hnr' := Lib.hid hnr'
              clear hownG hgi hci tb1 tb2 r2 hown hbk hv0 k3 k4 hok hokm
              go_wp2_with fail
              refine (hEx.out wG (But.refl _ _)).mono ?_; rintro e wH ⟨rfl, hb1⟩
              have hX3 := Lib.hid (SpAt.fresh wH X.x X.y X.far 23)
              have hBI := Lib.hid (balloc hb1 (.cells #[.int .i64 X.x, .int .i64 X.y, .bool X.far] 23))
              have hGH : wG.heap.size ≤ wH.heap.size := hb1.size
              clear hb1 d0 d1 dl
              go_upto_region 40 with fail
              generalize wH.alloc (.cells #[.int .i64 X.x, .int .i64 X.y, .bool X.far] 23) = wI at *
              have tI : Hid (But (fun k => k = wB.heap.size + 1) wG wI) := Lib.hid (But.of_below hBI.out)
              have hFI := Lib.hid (hF.below (hWA'.out _ tI.out))
              obtain ⟨m1, hm1⟩ : ∃ m1, nr % 1013 = m1 := ⟨_, rfl⟩
              have hm1a : 0 ≤ m1 := by omega
              have hm1b : m1 < 1013 := by omega
              obtain ⟨x0, x1, x2, -, -, -, xl⟩ := hX3.out
              by_cases hk : 1 ≤ k ∧ k < 1013
              case neg =>
                have cC := Lib.hid (fun (w1 : World) => bclose_n m1 k X w1 (fun h => hk ⟨h.2.2.1, h.2.2.2⟩))
                replace hm1 := Lib.hid hm1
                have hIW := Lib.hid (hWA'.out _ tI.out)
                clear hEx kT kL hvA hg1 hc1' hin hLB hdt hD hbt hnd hps hbE hWE hWA' hBI tI hFI
                have hS : Hid (∀ w', Below wI.heap.size wI w' → w'.cell? ⟨wH.heap.size, 0, none⟩ = some (.int .i64 X.x) ∧ w'.cell? ⟨wH.heap.size, 1, none⟩ = some (.int .i64 X.y) ∧ w'.cell? ⟨wH.heap.size, 2, none⟩ = some (.bool X.far) ∧ wH.heap.size < w'.heap.size ∧ Below wI.heap.size wI w') := Lib.hid fun w' h => ⟨(hX3.out.below h).c0, (hX3.out.below h).c1, (hX3.out.below h).c2, (hX3.out.below h).lt, h⟩
                clear hX3
                go_region_held3 (fun w' => w'.cell? ⟨wH.heap.size, 0, none⟩ = some (.int .i64 X.x) ∧ w'.cell? ⟨wH.heap.size, 1, none⟩ = some (.int .i64 X.y) ∧ w'.cell? ⟨wH.heap.size, 2, none⟩ = some (.bool X.far) ∧ wH.heap.size < w'.heap.size ∧ Below wI.heap.size wI w') (first | (refine hS.out _ ?_; repeat (with_reducible first | exact Below.refl _ _ | exact hwa | refine balloc ?_ _ | refine Below.drew ?_ | refine below_set ?_ (by first | omega | (dsimp only; omega)) _))) (first | (go_at_call 11; refine (refMod_e nr 1013 m1 _ (by omega) (by omega) (by decide) (by decide) hm1).mono ?_; rintro e w' ⟨rfl, rfl⟩) | (go_at_call 10; refine (cC.out _).mono ?_; rintro e wa ⟨rfl, ha2⟩; have hwa : Below wI.heap.size wI wa := below_seq (by repeat (with_reducible first | exact Below.refl _ _ | refine balloc ?_ _ | refine Below.drew ?_)) ha2; have hza := hwa.size; (first | (refine hav_ (P := SeAt wa wI.heap.size ⟨0, 0, false⟩ 0) (SeAt.below (SeAt.fresh _ _ _ _ _ _) ha2) (fun kC => ?_); obtain ⟨c0, c1, c2, c3, c4, c5, c6, c7, c8⟩ := kC) | (refine hav_ (P := SeAt wa wI.heap.size ⟨0, 0, false⟩ 0) (SeAt.below (SeAt.drew (SeAt.fresh _ _ _ _ _ _)) ha2) (fun kC => ?_); obtain ⟨c0, c1, c2, c3, c4, c5, c6, c7, c8⟩ := kC) | skip)) | fail)
                all_goals
                  rcases (show k < 1 ∨ (1 ≤ k ∧ 1013 ≤ k) by omega) with hk1 | ⟨hk1, hk2⟩
                all_goals
                  go_wp2
                  go_ret
                  first
                  | exact ⟨rfl, below_seq hIW.out (balloc hwa _)⟩
                  | exact ⟨rfl, below_seq hIW.out (set4_below hwa (by omega))⟩
              obtain ⟨k0, k1⟩ := hk
              obtain ⟨P, hP⟩ : ∃ P, sq (4 * hJ * k) = P := ⟨_, rfl⟩
              have oP : Ok P := by rw [← hP]; exact sq_ok _
              obtain ⟨c, hc⟩ : ∃ c, bAsk P X = c := ⟨_, rfl⟩
              have hcb := bAsk_bd P X
              rw [hc] at hcb
              obtain ⟨S, hS'⟩ : ∃ S, (k + c * m1) % 1013 = S := ⟨_, rfl⟩
              have hq : Hid (Sp.beq (sq (4 * hJ * S)) (sSum P (sq (4 * x * bAsk P X))) = decide (nv % 1013 = 0 ∨ c = 0)) := Lib.hid (by
                have := close_is k c nr nv hcb.1 hcb.2
                rw [hm1, hS', hP, ← hxv.out] at this
                rw [hc]; exact this)
              have S0 : 0 ≤ S := by omega
              have S1 : S < 1013 := by omega
              replace hP := Lib.hid hP
              replace hc := Lib.hid hc
              replace hm1 := Lib.hid hm1
              replace hS' := Lib.hid hS'
              go_cut [32, 33] from 229 to 236 (fun s32 s33 wx => ∃ q : Nat, s32 = .pointer (some ⟨q, 0, none⟩) ∧ s33 = .nilIface ∧ SeAt wx q P S ∧ Below wI.heap.size wI wx)
              case first =>
                clear hEx kT kL hvA hg1 hc1' hin hLB hdt hD hbt hnd hps hbE hWE hWA' hBI tI hq
                have hS : Hid (∀ w', Below wI.heap.size wI w' → w'.cell? ⟨wH.heap.size, 0, none⟩ = some (.int .i64 X.x) ∧ w'.cell? ⟨wH.heap.size, 1, none⟩ = some (.int .i64 X.y) ∧ w'.cell? ⟨wH.heap.size, 2, none⟩ = some (.bool X.far) ∧ wH.heap.size < w'.heap.size ∧ Below wI.heap.size wI w') := Lib.hid fun w' h => ⟨(hX3.out.below h).c0, (hX3.out.below h).c1, (hX3.out.below h).c2, (hX3.out.below h).lt, h⟩
                clear hX3
                go_region_held3 (fun w' => w'.cell? ⟨wH.heap.size, 0, none⟩ = some (.int .i64 X.x) ∧ w'.cell? ⟨wH.heap.size, 1, none⟩ = some (.int .i64 X.y) ∧ w'.cell? ⟨wH.heap.size, 2, none⟩ = some (.bool X.far) ∧ wH.heap.size < w'.heap.size ∧ Below wI.heap.size wI w') (first | (refine hS.out _ ?_; repeat (with_reducible first | exact Below.refl _ _ | exact hwa | refine balloc ?_ _ | refine Below.drew ?_ | refine below_set ?_ (by first | omega | (dsimp only; omega)) _))) (first | (go_at_call 11; refine (refMod_e nr 1013 m1 _ (by omega) (by omega) (by decide) (by decide) hm1).mono ?_; rintro e w' ⟨rfl, rfl⟩) | (go_at_call 10; refine (bclose_y m1 k X P c S _ (hFI.out.below (by repeat (with_reducible first | exact Below.refl _ _ | refine balloc ?_ _ | refine Below.drew ?_))) hm1a hm1b k0 k1 oX hP hc hS'.out).mono ?_; rintro e wa ⟨rfl, ha2⟩; have hwa : Below wI.heap.size wI wa := below_seq (by repeat (with_reducible first | exact Below.refl _ _ | refine balloc ?_ _ | refine Below.drew ?_)) ha2; have hza := hwa.size; (first | (refine hav_ (P := SeAt wa wI.heap.size ⟨0, 0, false⟩ 0) (SeAt.below (SeAt.fresh _ _ _ _ _ _) ha2) (fun kC => ?_); obtain ⟨c0, c1, c2, c3, c4, c5, c6, c7, c8⟩ := kC) | (refine hav_ (P := SeAt wa wI.heap.size ⟨0, 0, false⟩ 0) (SeAt.below (SeAt.drew (SeAt.fresh _ _ _ _ _ _)) ha2) (fun kC => ?_); obtain ⟨c0, c1, c2, c3, c4, c5, c6, c7, c8⟩ := kC) | skip)) | fail)
                all_goals
                  go_wp2_with fail
                  go_meet
                  first
                  | exact ⟨_, rfl, rfl, SeAt.fresh _ _ _ _ _ _, balloc hwa _⟩
                  | exact ⟨_, rfl, rfl, (SeAt.zero_of (by assumption) (by assumption) (by assumption) (by assumption) (by assumption) (by assumption) (by assumption) (by assumption) (by assumption)).set4 P S, set4_below hwa (by omega)⟩
              case rest =>
              obtain ⟨q, rfl, rfl, hsq, hb4⟩ := hcut
              obtain ⟨w6, hw6⟩ : ∃ x, x = wc := ⟨_, rfl⟩
              subst hw6
              have t6 := Lib.hid (tI.out.trans (But.of_below hb4))
              have hX6 := hX3.out.below hb4
              clear x0 x1 x2 xl
              obtain ⟨x0, x1, x2, -, -, -, xl⟩ := hX6
              obtain ⟨q0, q1, q2, q3, -, -, -, -, ql⟩ := id hsq
              go_wp2_with fail
              refine (bask_y P X c _ (hF.below (hWA'.out _ t6.out)) oP oX hc).mono ?_; rintro e w7 ⟨rfl, hb7⟩
              have t7 := Lib.hid (t6.out.trans (But.of_below hb7))
              have hs7 := hsq.below hb7
              have hD7 := Lib.hid (hD.out.keep (Nat.le_trans hBI.out.size (Nat.le_trans hb4.size hb7.size)) (((hb7.block _ (by have := hb4.size; have := hBI.out.size; omega)).trans (hb4.block _ (by have := hBI.out.size; omega))).trans (hBI.out.block _ hDl)))
              have hX7 := Lib.hid ((hX3.out.below hb4).below hb7)
              clear q0 q1 q2 q3 ql x0 x1 x2 xl
              obtain ⟨q0, q1, q2, q3, -, -, -, -, ql⟩ := hs7
              obtain ⟨-, -, d2, d3, d4, d5, -, -, e2, e3, e4, e5, el⟩ := id hD7.out
              go_upto_region 47 with fail
              have fD := Lib.hid (hD7.out.set1 P S)
              have t8 : Hid (But (fun k => k = wB.heap.size + 1) wG ((((w7.setCell ⟨wB.heap.size + 1, 2, none⟩ (.int .i64 P.x)).setCell ⟨wB.heap.size + 1, 3, none⟩ (.int .i64 P.y)).setCell ⟨wB.heap.size + 1, 4, none⟩ (.bool P.far)).setCell ⟨wB.heap.size + 1, 5, none⟩ (.int .i64 S))) := Lib.hid ((((t7.out.trans (But.setCell (S := fun k => k = wB.heap.size + 1) (p := ⟨wB.heap.size + 1, 2, none⟩) rfl _)).trans (But.setCell (S := fun k => k = wB.heap.size + 1) (p := ⟨wB.heap.size + 1, 3, none⟩) rfl _)).trans (But.setCell (S := fun k => k = wB.heap.size + 1) (p := ⟨wB.heap.size + 1, 4, none⟩) rfl _)).trans (But.setCell (S := fun k => k = wB.heap.size + 1) (p := ⟨wB.heap.size + 1, 5, none⟩) rfl _))
              have hne : wH.heap.size ≠ wB.heap.size + 1 := by omega
              have hX8 : Hid (SpAt ((((w7.setCell ⟨wB.heap.size + 1, 2, none⟩ (.int .i64 P.x)).setCell ⟨wB.heap.size + 1, 3, none⟩ (.int .i64 P.y)).setCell ⟨wB.heap.size + 1, 4, none⟩ (.bool P.far)).setCell ⟨wB.heap.size + 1, 5, none⟩ (.int .i64 S)) wH.heap.size X) := Lib.hid (hX7.out.keep (by simp) ((heap_setCell_other _ _ _ _ hne).trans ((heap_setCell_other _ _ _ _ hne).trans ((heap_setCell_other _ _ _ _ hne).trans (heap_setCell_other _ _ _ _ hne)))))
              generalize ((((w7.setCell ⟨wB.heap.size + 1, 2, none⟩ (.int .i64 P.x)).setCell ⟨wB.heap.size + 1, 3, none⟩ (.int .i64 P.y)).setCell ⟨wB.heap.size + 1, 4, none⟩ (.bool P.far)).setCell ⟨wB.heap.size + 1, 5, none⟩ (.int .i64 S)) = w8 at *
              clear d2 d3 d4 d5 e2 e3 e4 e5 el q0 q1 q2 q3 ql hX7 hD7 t7 hb7 hb4 hD hbt hX3 hBI tI t6 hsq hFI
              go_wp2_with fail
              refine (kT.out w8 t8.out).mono ?_; rintro e w9 ⟨rfl, hb9⟩
              have hbA := balloc hb9 (.cells #[.int .i64 T.x, .int .i64 T.y, .bool T.far] 23)
              have t10 := Lib.hid (t8.out.trans (But.of_below hbA))
              have hX10 := Lib.hid (hX8.out.below hbA)
              have hT10 := Lib.hid (SpAt.fresh w9 T.x T.y T.far 23)
              have hD10 := Lib.hid (fD.out.below hbA)
              have hz9 : wG.heap.size ≤ w9.heap.size := Nat.le_trans t8.out.size hb9.size
              clear hb9 hbA t8 hX8 fD
              go_upto_region 48 with fail
              generalize w9.alloc (.cells #[.int .i64 T.x, .int .i64 T.y, .bool T.far] 23) = w10 at *
              obtain ⟨d0, d1, d2, d3, d4, d5, -, -, -, -, -, -, dl⟩ := id hD10.out
              obtain ⟨m2, hm2⟩ : ∃ m2, nv % 1013 = m2 := ⟨_, rfl⟩
              by_cases hvc : nv % 1013 = 0 ∨ c = 0
              case neg =>
                rw [decide_eq_false hvc] at hq
                have g1 : (m2 == 0) = false := by rw [beq_eq_false_iff_ne]; exact fun h => hvc (.inl (hm2.trans h))
                have g2 : (c == 0) = false := by rw [beq_eq_false_iff_ne]; exact fun h => hvc (.inr h)
                replace hm2 := Lib.hid hm2
                have hWr := Lib.hid (bdo_wrong N M wA.heap.size p n m ps ag an cg cn X w10 (hF.below (hWA'.out _ t10.out)) P S x ⟨_, _, hvA.out _ t10.out⟩ hN.out hn900 hM.out hm12 hnd.out hps.out hcg.out hcg2.out hx hX (fun h0 => by obtain ⟨b, o, e, hs, -⟩ := hg1.out _ t10.out h0; exact ⟨b, o, e, hs⟩) (fun h0 => by obtain ⟨b, o, e, hs, -⟩ := hc1'.out _ t10.out h0; exact ⟨b, o, e, hs⟩) S0 S1 oP hq)
                clear hvc hq hvA hg1 hc1' hin hLB hdt hnd hps hbE hEx
                go_wp2_with fail
                refine hWr.out.mono ?_; rintro e w11 ⟨rfl, hb11⟩
                have t11 := Lib.hid (t10.out.trans (But.of_below hb11))
                have hT11 := Lib.hid (hT10.out.below hb11)
                clear hb11 hWr d0 d1 d2 d3 d4 d5 dl hD10 t10 hX10 hT10
                go_wp2_with fail
                refine (error_err 8 8 _ (hE.below (hWA'.out _ t11.out)) true rfl).mono ?_; rintro e w12 ⟨rfl, hb12⟩
                have t12 := Lib.hid (t11.out.trans (But.of_below hb12))
                have hT12 := Lib.hid (hT11.out.below hb12)
                clear hb12 t11 hT11
                go_wp2_with fail
                refine wp_region_grow Tryd.mixed (by kernel_rfl) ?_
                repeat (go_big_quiet_step (first | (go_at_call 11; exact grow_same (refMod_e nv 1013 m2 _ (by omega) (by omega) (by decide) (by decide) hm2))))
                refine wpQuiet_nil ?_
                intro _ hw'
                obtain ⟨x12, rfl⟩ := hw'
                have t13 := Lib.hid (t12.out.trans (But.of_below x12.h))
                have hT13 := Lib.hid (hT12.out.below x12.h)
                generalize x12.w = w13 at *
                clear t12 hT12
                obtain ⟨y0, y1, y2, -, -, -, yl⟩ := hT13.out
                have kT' : Hid (∀ w1, Below w13.heap.size w13 w1 → Calls Tryd.prog 14 #[.pointer (some ⟨p, 0, none⟩)] w1 fun e w' => e = .returned (spV T) ∧ Below w1.heap.size w1 w') := Lib.hid fun w1 h => kT.out w1 (t13.out.trans (But.of_below h))
                have kL' : Hid (∀ w1, Below w13.heap.size w13 w1 → Calls Tryd.prog 13 #[.pointer (some ⟨p, 0, none⟩)] w1 fun e w' => ∃ a cap, e = .returned (.slice a n cap) ∧ Below w1.heap.size w1 w') := Lib.hid fun w1 h => kL.out w1 (t13.out.trans (But.of_below h))
                have hW13 := Lib.hid (hWA'.out _ t13.out)
                clear kT kL t13 hWA'
                have hS : Hid (∀ w', Below w13.heap.size w13 w' → w'.cell? ⟨w9.heap.size, 0, none⟩ = some (.int .i64 T.x) ∧ w'.cell? ⟨w9.heap.size, 1, none⟩ = some (.int .i64 T.y) ∧ w'.cell? ⟨w9.heap.size, 2, none⟩ = some (.bool T.far) ∧ w9.heap.size < w'.heap.size ∧ Below w13.heap.size w13 w') := Lib.hid fun w' h => ⟨(hT13.out.below h).c0, (hT13.out.below h).c1, (hT13.out.below h).c2, (hT13.out.below h).lt, h⟩
                clear hT13
                go_wp2_with fail
                go_region_held3 (fun w' => w'.cell? ⟨w9.heap.size, 0, none⟩ = some (.int .i64 T.x) ∧ w'.cell? ⟨w9.heap.size, 1, none⟩ = some (.int .i64 T.y) ∧ w'.cell? ⟨w9.heap.size, 2, none⟩ = some (.bool T.far) ∧ w9.heap.size < w'.heap.size ∧ Below w13.heap.size w13 w') (first | (refine hS.out _ ?_; repeat (with_reducible first | exact Below.refl _ _ | exact hwt.out | refine balloc ?_ _ | refine Below.drew ?_))) (first | (go_at_call 14; refine (kT'.out _ (by repeat (with_reducible first | exact Below.refl _ _ | exact hwt.out | refine balloc ?_ _ | refine Below.drew ?_))).mono ?_; rintro e wt ⟨rfl, hbt⟩; have hwt := Lib.hid (show Below w13.heap.size w13 wt from below_seq (by repeat (with_reducible first | exact Below.refl _ _ | exact hwt.out | refine balloc ?_ _ | refine Below.drew ?_)) hbt); clear hbt) | (go_at_call 13; refine (kL'.out _ (by repeat (with_reducible first | exact Below.refl _ _ | exact hwt.out | refine balloc ?_ _ | refine Below.drew ?_))).mono ?_; rintro e wt ⟨av, cv, rfl, hbt⟩; have hwt := Lib.hid (show Below w13.heap.size w13 wt from below_seq (by repeat (with_reducible first | exact Below.refl _ _ | exact hwt.out | refine balloc ?_ _ | refine Below.drew ?_)) hbt); clear hbt) | fail)
                all_goals
                  go_wp2
                  go_ret
                  exact ⟨rfl, below_seq hW13.out (by repeat (first | exact Below.refl _ _ | exact hwt.out | refine balloc ?_ _ | refine Below.drew ?_))⟩
              case pos =>
                rw [decide_eq_true hvc] at hq
                have hDo := Lib.hid (bdo_all N M wA.heap.size p n m ps ag an cg cn X w10 (hF.below (hWA'.out _ t10.out)) vc vg P S x (hvA.out _ t10.out) (Nat.le_trans hbk0 (by have := t10.out.size; omega)) hN.out hn900 hM.out hm12 hnd.out hps.out hcg.out hcg2.out hx hX (fun h0 => by obtain ⟨b, o, e, hs, hl⟩ := hg1.out _ t10.out h0; exact ⟨b, o, e, hs, hin.out b (by omega)⟩) (fun h0 => by obtain ⟨b, o, e, hs, hl⟩ := hc1'.out _ t10.out h0; exact ⟨b, o, e, hs, hin.out b (by omega)⟩) S0 S1 oP hq)
                have hgw := Lib.hid (hg1.out _ t10.out)
                have hcw := Lib.hid (hc1'.out _ t10.out)
                have hWw := Lib.hid (hWA'.out _ t10.out)
                have hin0 : Hid (∀ k, inB p vc vg k → w.heap.size ≤ k) := Lib.hid fun k hk => Nat.le_trans hw0 ((hvA.out _ t10.out).blk k hk).1
                have hz10 : wG.heap.size ≤ w10.heap.size := t10.out.size
                obtain ⟨L2, hL2⟩ : ∃ L2, (liveN (goneL (List.replicate n false) (nI ps) ++ List.replicate m false) (N ++ M).length).length = L2 := ⟨_, rfl⟩
                obtain ⟨T2, hT2⟩ : ∃ T2, qS (totN (N ++ M) (goneL (List.replicate n false) (nI ps) ++ List.replicate m false) (N ++ M).length) = T2 := ⟨_, rfl⟩
                have hdt1 := hdt.out
                rw [hM.out] at hdt1
                have hL3 : (L2 : Int) = (n : Int) - (ps.length : Int) + (m : Int) := by
                  have h := hdt1.2
                  rw [hL2, show (liveN (List.replicate n false) N.length).length = n by rw [hN.out]; exact liveN_fresh n n (Nat.le_refl _)] at h
                  omega
                have hTX : Hid (sSum T X = T2) := Lib.hid (by rw [← hT.out, ← hX.out, qS_add, ← hT2, hdt1.1])
                have oT2 : Ok T2 := by rw [← hT2]; exact sq_ok _
                have hNM : (N ++ M).length ≤ 1000 := by rw [List.length_append, hN.out, hM.out]; omega
                clear hq hvA hg1 hc1' hLB hdt hdt1 hnd hbE hEx kT kL hWA' hN hx hnum hxv
                go_wp2_with fail
                refine hDo.out.mono ?_; rintro e wD ⟨rfl, vc', vg', bkD, -, hbut⟩
                have hWD := Lib.hid (hWw.out.trans (hbut.below hWw.out.size hin0.out))
                have hDD := Lib.hid (hD10.out.keep hbut.size (hbut.block _ dl (hin.out _ (by omega))))
                have hXD := Lib.hid (hX10.out.keep hbut.size (hbut.block _ hX10.out.lt (hin.out _ (by omega))))
                have hTD := Lib.hid (hT10.out.keep hbut.size (hbut.block _ hT10.out.lt (hin.out _ (by omega))))
                have hgD := Lib.hid (fun h0 => by obtain ⟨b, o, e, hs, hl⟩ := hgw.out h0; exact (⟨b, o, e, hs.but hbut (hin.out b (by omega))⟩ : ∃ b o, ag = some ⟨b, o, none⟩ ∧ IntsAt wD b o (nI ps)))
                have hcD := Lib.hid (fun h0 => by obtain ⟨b, o, e, hs, hl⟩ := hcw.out h0; exact (⟨b, o, e, hs.but hbut (hin.out b (by omega))⟩ : ∃ b o, an = some ⟨b, o, none⟩ ∧ SpotsAt wD b o (M.map qS)))
                replace bkD := Lib.hid (show BkAt wD wA.heap.size p _ _ from ⟨_, _, bkD⟩)
                clear hDo hgw hcw hWw hin0 hbut d0 d1 d2 d3 d4 d5 dl hD10 hX10 hT10 t10 hin hz10
                have hFD := Lib.hid (hF.below hWD.out)
                have hED := Lib.hid (hE.below hWD.out)
                have kT : Hid (∀ w1, Below wD.heap.size wD w1 → Calls Tryd.prog 14 #[.pointer (some ⟨p, 0, none⟩)] w1 fun e w' => e = .returned (spV T2) ∧ Below w1.heap.size w1 w') := Lib.hid fun w1 h => by
                  have := btotal_c _ _ wA.heap.size p w1 (hFD.out.below h) (bkD.out.below h) (by omega)
                  rw [hT2] at this
                  exact this
                have kL : Hid (∀ w1, Below wD.heap.size wD w1 → Calls Tryd.prog 13 #[.pointer (some ⟨p, 0, none⟩)] w1 fun e w' => ∃ a cap, e = .returned (.slice a L2 cap) ∧ Below w1.heap.size w1 w') := Lib.hid fun w1 h => blive_n _ _ wA.heap.size p L2 w1 (bkD.out.below h) hNM (Lib.hid hL2)
                have kD : Hid (0 < ps.length → ∀ w1, Below wD.heap.size wD w1 → Calls Tryd.prog 12 #[.pointer (some ⟨p, 0, none⟩), dlV (.slice ag ps.length cg) (.slice an m cn) P S] w1 fun e w' => e = .returned (.iface 69 (.int .i64 6)) ∧ Below w1.heap.size w1 w') := Lib.hid fun hp0 w1 h => bdo_again (N ++ M) M wA.heap.size p n m ps ag an cg cn w1 (hFD.out.below h) P S (bkD.out.below h) hNM hm12 hps.out hp0 hcg.out hcg2.out hM.out (fun h0 => by obtain ⟨b, o, e, hs⟩ := hgD.out h0; exact ⟨b, o, e, hs.below h⟩) (fun h0 => by obtain ⟨b, o, e, hs⟩ := hcD.out h0; exact ⟨b, o, e, hs.below h⟩)
                replace hL2 := Lib.hid hL2
                replace hT2 := Lib.hid hT2
                clear hgD hcD bkD hps hcg hcg2 hM hX hT
                go_wp2_with fail
                refine (error_nil 8 _ false (Lib.hid rfl)).mono ?_; rintro e wJ ⟨rfl, hbJ⟩
                replace hbJ := Lib.hid hbJ
                have g1 : ((m2 == 0) = true) ∨ ((m2 == 0) = false ∧ (c == 0) = true) := by
                  by_cases h : m2 = 0
                  · exact .inl (by rw [h]; rfl)
                  · refine .inr ⟨by rw [beq_eq_false_iff_ne]; exact h, ?_⟩
                    rcases hvc with h1 | h1
                    · exact absurd (hm2.symm.trans h1) h
                    · rw [h1]; rfl
                replace hm2 := Lib.hid hm2
                clear hvc
                go_upto_region 52 with fail
                go_cut [282] from 273 to 281 (fun s282 wx => s282 = .bool false ∧ Below wJ.heap.size wJ wx)
                case first =>
                  clear kT kL kD hDD hXD hTD hFD hED hWD
                  rcases g1 with g1 | ⟨g1, g2⟩
                  all_goals
                    refine wp_region_grow Tryd.mixed (by kernel_rfl) ?_
                    repeat (go_big_quiet_step (first | (go_at_call 11; exact grow_same (refMod_e nv 1013 m2 _ (by omega) (by omega) (by decide) (by decide) hm2))))
                    refine wpQuiet_nil ?_
                    intro _ hw'
                    obtain ⟨x12, rfl⟩ := hw'
                    go_wp2_with fail
                    go_meet
                    exact ⟨rfl, x12.h⟩
                case rest =>
                obtain ⟨rfl, hbx⟩ := hcut
                obtain ⟨wK, hwK⟩ : ∃ x, x = wc := ⟨_, rfl⟩
                subst hwK
                have hbK := Lib.hid (below_seq hbJ.out hbx)
                clear hbx hbJ g1
                obtain ⟨y0, y1, y2, -, -, -, yl⟩ := hTD.out.below hbK.out
                obtain ⟨x0, x1, x2, -, -, -, xl⟩ := hXD.out.below hbK.out
                go_wp2_with fail
                refine (add_e T X T2 _ (hFD.out.below hbK.out) oT oX hTX).mono ?_; rintro e wL ⟨rfl, hbL⟩
                have hbM := Lib.hid (below_seq hbK.out (balloc hbL (.cells #[.int .i64 T2.x, .int .i64 T2.y, .bool T2.far] 23)))
                have hsM := Lib.hid (SpAt.fresh wL T2.x T2.y T2.far 23)
                clear y0 y1 y2 yl x0 x1 x2 xl hbL hbK
                go_upto_region 57 with fail
                generalize wL.alloc (.cells #[.int .i64 T2.x, .int .i64 T2.y, .bool T2.far] 23) = wM at *
                have kT' : Hid (∀ w1, Below wM.heap.size wM w1 → Calls Tryd.prog 14 #[.pointer (some ⟨p, 0, none⟩)] w1 fun e w' => e = .returned (spV T2) ∧ Below w1.heap.size w1 w') := Lib.hid fun w1 h => kT.out w1 (below_seq hbM.out h)
                have kL' : Hid (∀ w1, Below wM.heap.size wM w1 → Calls Tryd.prog 13 #[.pointer (some ⟨p, 0, none⟩)] w1 fun e w' => ∃ a cap, e = .returned (.slice a L2 cap) ∧ Below w1.heap.size w1 w') := Lib.hid fun w1 h => kL.out w1 (below_seq hbM.out h)
                have kD' : Hid (0 < ps.length → ∀ w1, Below wM.heap.size wM w1 → Calls Tryd.prog 12 #[.pointer (some ⟨p, 0, none⟩), dlV (.slice ag ps.length cg) (.slice an m cn) P S] w1 fun e w' => e = .returned (.iface 69 (.int .i64 6)) ∧ Below w1.heap.size w1 w') := Lib.hid fun hp w1 h => kD.out hp w1 (below_seq hbM.out h)
                have hDM := Lib.hid (hDD.out.below hbM.out)
                have hWM := Lib.hid (below_seq hWD.out hbM.out)
                have hEM := Lib.hid (hED.out.below hbM.out)
                clear kT kL kD hDD hbM hWD hED hFD hXD hTD
                have gw1 : IntKind.i64.wrap ((n : Int) - (ps.length : Int)) = (n : Int) - (ps.length : Int) := by rw [IntKind.wrap_i64]; omega
                have gw2 : IntKind.i64.wrap ((n : Int) - (ps.length : Int) + (m : Int)) = (n : Int) - (ps.length : Int) + (m : Int) := by rw [IntKind.wrap_i64]; omega
                have gne : ((L2 : Int) != (n : Int) - (ps.length : Int) + (m : Int)) = false := by rw [hL3]; simp
                replace hL3 := Lib.hid hL3
                obtain ⟨y0, y1, y2, -, -, -, yl⟩ := hsM.out
                obtain ⟨d0, d1, -, -, -, -, -, -, -, -, -, -, dl⟩ := id hDM.out
                have hLP : Hid (∀ w1, Below wM.heap.size wM w1 → w1.cell? ⟨wB.heap.size + 1, 0, none⟩ = some (.slice ag ps.length cg) ∧ w1.cell? ⟨wB.heap.size + 1, 1, none⟩ = some (.slice an m cn) ∧ wB.heap.size + 1 < w1.heap.size) := Lib.hid fun w1 h => ⟨(hDM.out.below h).c0, (hDM.out.below h).c1, (hDM.out.below h).lt⟩
                go_cut [326] from 303 to 325 (fun s326 wx => s326 = .bool false ∧ Below wM.heap.size wM wx)
                case first =>
                  clear kD' hDM hWM hEM hTX
                  have hS : Hid (∀ w', Below wM.heap.size wM w' → w'.cell? ⟨wL.heap.size, 0, none⟩ = some (.int .i64 T2.x) ∧ w'.cell? ⟨wL.heap.size, 1, none⟩ = some (.int .i64 T2.y) ∧ w'.cell? ⟨wL.heap.size, 2, none⟩ = some (.bool T2.far) ∧ wL.heap.size < w'.heap.size ∧ w'.cell? ⟨wB.heap.size + 1, 0, none⟩ = some (.slice ag ps.length cg) ∧ w'.cell? ⟨wB.heap.size + 1, 1, none⟩ = some (.slice an m cn) ∧ wB.heap.size + 1 < w'.heap.size ∧ Below wM.heap.size wM w') := Lib.hid fun w' h => ⟨(hsM.out.below h).c0, (hsM.out.below h).c1, (hsM.out.below h).c2, (hsM.out.below h).lt, (hLP.out w' h).1, (hLP.out w' h).2.1, (hLP.out w' h).2.2, h⟩
                  clear hLP hsM
                  go_region_held3 (fun w' => w'.cell? ⟨wL.heap.size, 0, none⟩ = some (.int .i64 T2.x) ∧ w'.cell? ⟨wL.heap.size, 1, none⟩ = some (.int .i64 T2.y) ∧ w'.cell? ⟨wL.heap.size, 2, none⟩ = some (.bool T2.far) ∧ wL.heap.size < w'.heap.size ∧ w'.cell? ⟨wB.heap.size + 1, 0, none⟩ = some (.slice ag ps.length cg) ∧ w'.cell? ⟨wB.heap.size + 1, 1, none⟩ = some (.slice an m cn) ∧ wB.heap.size + 1 < w'.heap.size ∧ Below wM.heap.size wM w') (first | (refine hS.out _ ?_; repeat (with_reducible first | exact Below.refl _ _ | exact hwt.out | refine balloc ?_ _ | refine Below.drew ?_))) (first | (go_at_call 14; refine (kT'.out _ (by repeat (with_reducible first | exact Below.refl _ _ | exact hwt.out | refine balloc ?_ _ | refine Below.drew ?_))).mono ?_; rintro e wt ⟨rfl, hbt⟩; have hwt := Lib.hid (show Below wM.heap.size wM wt from below_seq (by repeat (with_reducible first | exact Below.refl _ _ | exact hwt.out | refine balloc ?_ _ | refine Below.drew ?_)) hbt); clear hbt) | (go_at_call 13; refine (kL'.out _ (by repeat (with_reducible first | exact Below.refl _ _ | exact hwt.out | refine balloc ?_ _ | refine Below.drew ?_))).mono ?_; rintro e wt ⟨av, cv, rfl, hbt⟩; have hwt := Lib.hid (show Below wM.heap.size wM wt from below_seq (by repeat (with_reducible first | exact Below.refl _ _ | exact hwt.out | refine balloc ?_ _ | refine Below.drew ?_)) hbt); clear hbt) | fail)
                  all_goals
                    go_wp2_with fail
                    go_meet
                    exact ⟨rfl, (by repeat (first | exact Below.refl _ _ | exact hwt.out | refine balloc ?_ _ | refine Below.drew ?_))⟩
                case rest =>
                obtain ⟨rfl, hbx⟩ := hcut
                obtain ⟨wN, hwN⟩ : ∃ x, x = wc := ⟨_, rfl⟩
                subst hwN
                have hbN := Lib.hid hbx
                clear hbx y0 y1 y2 yl d0 d1 dl
                obtain ⟨d0, d1, d2, d3, d4, d5, -, -, -, -, -, -, dl⟩ := hDM.out.below hbN.out
                by_cases hp0 : ps.length = 0
                · have g5 : ((ps.length : Int) == 0) = true := by rw [hp0]; rfl
                  clear hp0
                  go_wp2_with fail
                  go_ret
                  exact ⟨rfl, below_seq hWM.out hbN.out⟩
                · have g5 : ((ps.length : Int) == 0) = false := by rw [beq_eq_false_iff_ne]; omega
                  have hdo := Lib.hid (kD'.out (by omega))
                  clear hp0
                  go_wp2_with fail
                  refine (hdo.out _ hbN.out).mono ?_; rintro e wO ⟨rfl, hbO⟩
                  have hbP := Lib.hid (below_seq hbN.out hbO)
                  clear hbO
                  go_wp2_with fail
                  refine (error_err 6 6 _ (hEM.out.below hbP.out) true rfl).mono ?_; rintro e wQ ⟨rfl, hbQ⟩
                  go_wp2_with fail
                  go_ret
                  exact ⟨rfl, below_seq hWM.out (below_seq hbP.out hbQ)⟩
            · obtain ⟨q1, q2, q3⟩ := of_decide_eq_true hC
              clear hC
              obtain ⟨b0, f0, rfl, x0, hb0⟩ := k3.out _ hbG (by omega)
              obtain ⟨b1, f1, rfl, x1, hb1⟩ := k4.out _ hbG (by omega)
              have j0 := x0.c m q1
              have j1 := x0.lt
              have y0 := x1.c m q2
              have y1 := x1.lt
              have hkk := Lib.hid (fun (w' : World) (h : Below wB.heap.size wG w') => (⟨(h.cell (p := ⟨b0, f0 + m, none⟩) hb0).trans j0, Nat.lt_of_lt_of_le j1 h.size, (h.cell (p := ⟨b1, f1 + m, none⟩) hb1).trans y0, Nat.lt_of_lt_of_le y1 h.size⟩ : w'.cell? ⟨b0, f0 + m, none⟩ = some (.int .i64 cs[m]) ∧ b0 < w'.heap.size ∧ w'.cell? ⟨b1, f1 + m, none⟩ = some (.int .i64 bs[m]) ∧ b1 < w'.heap.size))
              have ev := getD_get cs m q1
              have er := getD_get bs m q2
              have hsn : Hid (∀ k : 0 ≤ cs.getD m 0 ∧ cs.getD m 0 < 1013 ∧ 0 ≤ bs.getD m 0 ∧ bs.getD m 0 < 1013, okV cs bs (m + 1)) := Lib.hid fun k => hokm.out.snoc k
              have hcn : coinN cs bs (m + 1) = coinN cs bs m ++ [cs.getD m 0 + hJ * bs.getD m 0] := rfl
              have ts1 : tsum cs (m + 1) = tsum cs m + cs.getD m 0 := rfl
              have ts2 : tsum bs (m + 1) = tsum bs m + bs.getD m 0 := rfl
              have tb1 := tsum_bd cs m (fun j hj => ⟨(hokm.out j hj).1, (hokm.out j hj).2.1⟩)
              have tb2 := tsum_bd bs m (fun j hj => ⟨(hokm.out j hj).2.2.1, (hokm.out j hj).2.2.2⟩)
              rw [ev, er] at hsn hcn
              rw [ev] at ts1
              rw [er] at ts2
              have e1 : (m : Int) < (cs.length : Int) := by omega
              have e2 : (m : Int) < (bs.length : Int) := by omega
              clear x0 x1 ev er k3 k4
              generalize cs[m] = v at *
              generalize bs[m] = r at *
              replace hcn := Lib.hid hcn
              replace ts1 := Lib.hid ts1
              replace ts2 := Lib.hid ts2
              by_cases hvr : 0 ≤ v ∧ v < 1013 ∧ 0 ≤ r ∧ r < 1013
              · obtain ⟨A, hA⟩ : ∃ A, sq (4 * v + 4 * hJ * r) = A := ⟨_, rfl⟩
                have hqA : Hid (A = qS (v + hJ * r)) := Lib.hid (by rw [← hA]; unfold qS; rw [Int.mul_add, Int.mul_assoc])
                have hAf : Hid (sq (4 * v + 4 * hJ * r) = A) := Lib.hid hA
                clear hA
                have cH := Lib.hid (fun (w1 : World) hF1 => hide_y v r A w1 hF1 hvr.1 hvr.2.1 hvr.2.2.1 hvr.2.2.2 hAf)
                have hok1 := Lib.hid (hsn.out hvr)
                generalize tsum cs m = tv at *
                generalize tsum bs m = tr at *
                have wv : IntKind.i64.wrap (pv + tv + v) = pv + tv + v := by rw [IntKind.wrap_i64]; omega
                have wr' : IntKind.i64.wrap (pr + tr + r) = pr + tr + r := by rw [IntKind.wrap_i64]; omega
                clear hvr hsn hokm tb1 tb2
                go_upto_region 33 with fail
                go_cut [28, 29] from 188 to 199 (fun s28 s29 wx => ∃ k : Nat, s28 = .pointer (some ⟨k, 0, none⟩) ∧ s29 = .nilIface ∧ SpAt wx k A ∧ Below wG.heap.size wG wx)
                case first =>
                  clear r2 hD hbt hown hnd hps hok hbk hWE hbE wv wr' hcn ts1 ts2 hok1 hqA hAf
                  have hS : Hid (∀ w', Below wG.heap.size wG w' → w'.cell? ⟨b0, f0 + m, none⟩ = some (.int .i64 v) ∧ b0 < w'.heap.size ∧ w'.cell? ⟨b1, f1 + m, none⟩ = some (.int .i64 r) ∧ b1 < w'.heap.size ∧ Below wG.heap.size wG w') := Lib.hid fun w' h => ⟨((bcell h).1 _ _ j1).trans j0, Nat.lt_of_lt_of_le j1 h.size, ((bcell h).1 _ _ y1).trans y0, Nat.lt_of_lt_of_le y1 h.size, h⟩
                  go_region_held3 (fun w' => w'.cell? ⟨b0, f0 + m, none⟩ = some (.int .i64 v) ∧ b0 < w'.heap.size ∧ w'.cell? ⟨b1, f1 + m, none⟩ = some (.int .i64 r) ∧ b1 < w'.heap.size ∧ Below wG.heap.size wG w') (first | (refine hS.out _ ?_; repeat (with_reducible first | exact Below.refl _ _ | exact hwt.out | refine balloc ?_ _ | refine Below.drew ?_ | refine below_set ?_ (by first | omega | (dsimp only; omega)) _))) (first | (go_at_call 6; refine (cH.out _ (hFG.out.below (by repeat (with_reducible first | exact Below.refl _ _ | refine balloc ?_ _ | refine Below.drew ?_)))).mono ?_; rintro e wb ⟨rfl, hbb⟩; have hwt := Lib.hid (show Below wG.heap.size wG wb from below_seq (by repeat (with_reducible first | exact Below.refl _ _ | refine balloc ?_ _ | refine Below.drew ?_)) hbb); have hza := hwt.out.size; obtain ⟨hcc, hff⟩ := bcell hbb) | fail)
                  all_goals
                    go_wp2_with fail
                    go_meet
                    have hbA : Below wG.heap.size wG wb := below_seq (by repeat (first | exact Below.refl _ _ | refine balloc ?_ _ | refine Below.drew ?_)) hbb
                    have hsz := hbA.size
                    first
                    | exact ⟨_, rfl, rfl, SpAt.fresh _ _ _ _ _, balloc hbA _⟩
                    | exact ⟨_, rfl, rfl, SpAt.set3 (s := ⟨0, 0, false⟩) (SpAt.below (SpAt.fresh _ _ _ _ _) hbb) A, set3_below hbA (by omega)⟩
                    | exact ⟨_, rfl, rfl, SpAt.set3 (s := ⟨0, 0, false⟩) (SpAt.below (SpAt.drew (SpAt.fresh _ _ _ _ _)) hbb) A, set3_below hbA (by omega)⟩
                case rest =>
                  obtain ⟨k28, rfl, rfl, hs28, hbx⟩ := hcut
                  obtain ⟨wH, hwH⟩ : ∃ x : World, x = wc := ⟨_, rfl⟩
                  subst hwH
                  obtain ⟨i0, i1, i2, -, -, -, il⟩ := hs28
                  have rH := Lib.hid (own_below r2.out hbx)
                  have hDH := Lib.hid (hD.out.below hbx)
                  have hbH := Lib.hid (hbt.out.trans (But.of_below hbx))
                  have hGH : wG.heap.size ≤ wH.heap.size := hbx.size
                  have hGH' := Lib.hid (hbx.mono (show wB.heap.size ≤ wG.heap.size by omega))
                  have hEG : wE.heap.size ≤ wG.heap.size := hbt.out.size
                  have kk0 := ((bcell hbx).1 _ _ j1).trans j0
                  have kk1 := ((bcell hbx).1 _ _ y1).trans y0
                  have d0 := hDH.out.c1
                  have d1 := hDH.out.f1
                  have d2 := hDH.out.lt
                  have hne : ¬ vn.ownBlock = some (wB.heap.size + 1) := fun e => by have := (rH.out.lt _ e).1; omega
                  clear j0 j1 y0 y1 r2 hbx hD hbt
                  go_upto_region 37 with (first | (at_builtin; refine wpl_append_spot rfl _ _ _ rfl (by kernel_rfl) wE.heap.size _ ((coinN cs bs m).map qS) m rfl (rH.out.alloc _) (by rw [List.length_map, coinN_len]) (by omega) (by simp only [World.size_alloc]; omega) wH.heap.size A rfl (by go_simp) (by go_simp) (by go_simp) ?_; intro v1 w7 hown' hgrow hbel hloc; obtain ⟨av, cv, rfl⟩ := own_slB hown'; have hb7 : But (fun k => vn.ownBlock = some k) wH w7 := (But.of_below (below_alloc _ _)).trans (But.of_grown hgrow (fun k hk => hk)); have n0 := (hb7.cell d2 hne 1).trans d0; have n1 := (World.frozen?_of_block (a := ⟨wB.heap.size + 1, 1, none⟩) (hb7.block _ d2 hne)).trans d1; have n2 := Nat.lt_of_lt_of_le d2 hb7.size; replace hown' := Lib.hid hown'; replace hb7 := Lib.hid hb7; clear hgrow hloc hbel) | fail)
                  have fD := Lib.hid ((hDH.out.keep hb7.out.size (hb7.out.block _ d2 hne)).setn (.slice av (m + 1) cv))
                  have fO := Lib.hid (ownsRow_setCell_below hown'.out (a := ⟨wB.heap.size + 1, 1, none⟩) (by show wB.heap.size + 1 < _; omega) (.slice av (m + 1) cv))
                  have fB : But (fun k => k = wB.heap.size + 1) wE (w7.setCell ⟨wB.heap.size + 1, 1, none⟩ (.slice av (m + 1) cv)) := ((show But (fun k => k = wB.heap.size + 1 ∨ vn.ownBlock = some k) wE w7 from (hbH.out.mono (fun k _ h => Or.inl h)).trans (hb7.out.mono (fun k _ h => Or.inr h))).mono (fun k hk h => h.elim id (fun e => absurd (rH.out.lt _ e).1 (by omega)))).trans (But.setCell (S := fun k => k = wB.heap.size + 1) (p := ⟨wB.heap.size + 1, 1, none⟩) rfl _)
                  have fK := hkk.out (w7.setCell ⟨wB.heap.size + 1, 1, none⟩ (.slice av (m + 1) cv)) (hGH'.out.trans ((hb7.out.below (by omega) (fun k hk => by have := (rH.out.lt _ hk).1; omega)).setCell (p := ⟨wB.heap.size + 1, 1, none⟩) (by show wB.heap.size ≤ wB.heap.size + 1; omega) _))
                  generalize w7.setCell ⟨wB.heap.size + 1, 1, none⟩ (.slice av (m + 1) cv) = w8 at *
                  obtain ⟨m1, m2, m3, m4⟩ := fK
                  clear n0 n1 n2 d0 d1 d2 i0 i1 i2 il kk0 kk1 rH hDH hbH hown' hb7
                  go_wp2
                  go_roundw
                  case rel => exact ⟨m + 1, _, by omega, by omega, by omega, by go_num, by rw [ts1.out, ← Int.add_assoc], by rw [ts2.out, ← Int.add_assoc], hok1.out, fD.out, by rw [hcn.out, List.map_append, List.map_cons, List.map_nil, ← hqA.out]; exact fO.out, fB⟩
                  case measure => simp [intOf]; omega
              · have cH := Lib.hid (fun (w1 : World) => hide_n v r w1 hvr)
                clear hvr hsn hokm r2 hD hbt hown hnd hps hok hbk tb1 tb2
                go_upto_region 33 with fail
                have hS : Hid (∀ w', Below wG.heap.size wG w' → w'.cell? ⟨b0, f0 + m, none⟩ = some (.int .i64 v) ∧ b0 < w'.heap.size ∧ w'.cell? ⟨b1, f1 + m, none⟩ = some (.int .i64 r) ∧ b1 < w'.heap.size ∧ Below wG.heap.size wG w') := Lib.hid fun w' h => ⟨((bcell h).1 _ _ j1).trans j0, Nat.lt_of_lt_of_le j1 h.size, ((bcell h).1 _ _ y1).trans y0, Nat.lt_of_lt_of_le y1 h.size, h⟩
                go_region_held3 (fun w' => w'.cell? ⟨b0, f0 + m, none⟩ = some (.int .i64 v) ∧ b0 < w'.heap.size ∧ w'.cell? ⟨b1, f1 + m, none⟩ = some (.int .i64 r) ∧ b1 < w'.heap.size ∧ Below wG.heap.size wG w') (first | (refine hS.out _ ?_; repeat (with_reducible first | exact Below.refl _ _ | exact hwt.out | refine balloc ?_ _ | refine Below.drew ?_ | refine below_set ?_ (by first | omega | (dsimp only; omega)) _))) (first | (go_at_call 6; refine (cH.out _).mono ?_; rintro e wb ⟨rfl, hbb⟩; have hwt := Lib.hid (show Below wG.heap.size wG wb from below_seq (by repeat (with_reducible first | exact Below.refl _ _ | refine balloc ?_ _ | refine Below.drew ?_)) hbb); have hza := hwt.out.size; obtain ⟨hcc, hff⟩ := bcell hbb) | fail)
                all_goals
                  have hbA : Below wG.heap.size wG wb := below_seq (by repeat (first | exact Below.refl _ _ | refine balloc ?_ _ | refine Below.drew ?_)) hbb
                  have hsz := hbA.size
                  have hWG := hWE.out.trans (hbG.mono hwB)
                  go_wp2
                  go_ret
                  first
                  | exact ⟨rfl, below_seq hWG (balloc hbA _)⟩
                  | exact ⟨rfl, below_seq hWG (set3_below hbA (by omega))⟩
    · obtain ⟨q1, q2, q3⟩ := of_decide_eq_true hC
      clear hC
      obtain ⟨b0, f0, rfl, x0, -⟩ := h0.out _ hbr.out (by omega)
      obtain ⟨b1, f1, rfl, x1, -⟩ := h1.out _ hbr.out (by omega)
      have j0 := x0.c n q1
      have j1 := x0.lt
      have y0 := x1.c n q2
      have y1 := x1.lt
      have ev := getD_get vs n q1
      have er := getD_get rs n q2
      have hsn : Hid (∀ k : 0 ≤ vs.getD n 0 ∧ vs.getD n 0 < 1013 ∧ 0 ≤ rs.getD n 0 ∧ rs.getD n 0 < 1013, okV vs rs (n + 1)) := Lib.hid fun k => hok.out.snoc k
      have hcn : coinN vs rs (n + 1) = coinN vs rs n ++ [vs.getD n 0 + hJ * rs.getD n 0] := rfl
      rw [ev, er] at hsn hcn
      have e1 : (n : Int) < (vs.length : Int) := by omega
      have e2 : (n : Int) < (rs.length : Int) := by omega
      clear x0 x1 ev er h0 h1
      generalize vs[n] = v at *
      generalize rs[n] = r at *
      replace hcn := Lib.hid hcn
      by_cases hvr : 0 ≤ v ∧ v < 1013 ∧ 0 ≤ r ∧ r < 1013
      · obtain ⟨A, hA⟩ : ∃ A, sq (4 * v + 4 * hJ * r) = A := ⟨_, rfl⟩
        have hqA : Hid (A = qS (v + hJ * r)) := Lib.hid (by rw [← hA]; unfold qS; rw [Int.mul_add, Int.mul_assoc])
        have hAf : Hid (sq (4 * v + 4 * hJ * r) = A) := Lib.hid hA
        clear hA
        have cH := Lib.hid (fun (w1 : World) hF1 => hide_y v r A w1 hF1 hvr.1 hvr.2.1 hvr.2.2.1 hvr.2.2.2 hAf)
        have hok1 := Lib.hid (hsn.out hvr)
        clear hvr hsn hok
        go_upto_region 11 with fail
        go_cut [18, 19] from 86 to 97 (fun s18 s19 wx => ∃ k : Nat, s18 = .pointer (some ⟨k, 0, none⟩) ∧ s19 = .nilIface ∧ SpAt wx k A ∧ Below wA.heap.size wA wx)
        case first =>
          have hS : Hid (∀ w', Below wA.heap.size wA w' → w'.cell? ⟨b0, f0 + n, none⟩ = some (.int .i64 v) ∧ b0 < w'.heap.size ∧ w'.cell? ⟨b1, f1 + n, none⟩ = some (.int .i64 r) ∧ b1 < w'.heap.size ∧ Below wA.heap.size wA w') := Lib.hid fun w' h => ⟨((bcell h).1 _ _ j1).trans j0, Nat.lt_of_lt_of_le j1 h.size, ((bcell h).1 _ _ y1).trans y0, Nat.lt_of_lt_of_le y1 h.size, h⟩
          go_region_held3 (fun w' => w'.cell? ⟨b0, f0 + n, none⟩ = some (.int .i64 v) ∧ b0 < w'.heap.size ∧ w'.cell? ⟨b1, f1 + n, none⟩ = some (.int .i64 r) ∧ b1 < w'.heap.size ∧ Below wA.heap.size wA w') (first | (refine hS.out _ ?_; repeat (with_reducible first | exact Below.refl _ _ | exact hwt.out | refine balloc ?_ _ | refine Below.drew ?_ | refine below_set ?_ (by first | omega | (dsimp only; omega)) _))) (first | (go_at_call 6; refine (cH.out _ (hFA.out.below (by repeat (with_reducible first | exact Below.refl _ _ | refine balloc ?_ _ | refine Below.drew ?_)))).mono ?_; rintro e wb ⟨rfl, hbb⟩; have hwt := Lib.hid (show Below wA.heap.size wA wb from below_seq (by repeat (with_reducible first | exact Below.refl _ _ | refine balloc ?_ _ | refine Below.drew ?_)) hbb); have hza := hwt.out.size; obtain ⟨hcc, hff⟩ := bcell hbb) | fail)
          all_goals
            go_wp2_with fail
            go_meet
            have hbA : Below wA.heap.size wA wb := below_seq (by repeat (first | exact Below.refl _ _ | refine balloc ?_ _ | refine Below.drew ?_)) hbb
            have hsz := hbA.size
            first
            | exact ⟨_, rfl, rfl, SpAt.fresh _ _ _ _ _, balloc hbA _⟩
            | exact ⟨_, rfl, rfl, SpAt.set3 (s := ⟨0, 0, false⟩) (SpAt.below (SpAt.fresh _ _ _ _ _) hbb) A, set3_below hbA (by omega)⟩
            | exact ⟨_, rfl, rfl, SpAt.set3 (s := ⟨0, 0, false⟩) (SpAt.below (SpAt.drew (SpAt.fresh _ _ _ _ _)) hbb) A, set3_below hbA (by omega)⟩
        case rest =>
          obtain ⟨k18, rfl, rfl, hs18, hbx⟩ := hcut
          obtain ⟨wB, hwB⟩ : ∃ x : World, x = wc := ⟨_, rfl⟩
          subst hwB
          obtain ⟨i0, i1, i2, -, -, -, il⟩ := hs18
          have rB := Lib.hid (own_below r1.out hbx)
          have hbn := Lib.hid (below_seq hbr.out hbx)
          have hbz : w5.heap.size ≤ wB.heap.size := hbn.out.size
          clear j0 j1 y0 y1 r1 hbx
          go_wp2_with (first | (at_builtin; refine wpl_append_spot rfl _ _ _ rfl (by kernel_rfl) w5.heap.size _ ((coinN vs rs n).map qS) n rfl (rB.out.alloc _) (by rw [List.length_map, coinN_len]) (by omega) (by simp only [World.size_alloc]; omega) wB.heap.size A rfl (by go_simp) (by go_simp) (by go_simp) ?_; intro v1 w7 hown' hgrow hbel hloc; replace hown' := Lib.hid hown'; replace hbel := Lib.hid (hbel w5 (balloc hbn.out _)); clear hgrow hloc) | fail)
          go_wp2
          go_roundw
          case rel => exact ⟨n + 1, by omega, by omega, by omega, by go_num, hok1.out, by rw [hcn.out, List.map_append, List.map_cons, List.map_nil, ← hqA.out]; exact hown'.out, hbel.out⟩
          case measure => simp [intOf]; omega
      · have cH := Lib.hid (fun (w1 : World) => hide_n v r w1 hvr)
        clear hvr hsn hok r1
        go_upto_region 11 with fail
        have hS : Hid (∀ w', Below wA.heap.size wA w' → w'.cell? ⟨b0, f0 + n, none⟩ = some (.int .i64 v) ∧ b0 < w'.heap.size ∧ w'.cell? ⟨b1, f1 + n, none⟩ = some (.int .i64 r) ∧ b1 < w'.heap.size ∧ Below wA.heap.size wA w') := Lib.hid fun w' h => ⟨((bcell h).1 _ _ j1).trans j0, Nat.lt_of_lt_of_le j1 h.size, ((bcell h).1 _ _ y1).trans y0, Nat.lt_of_lt_of_le y1 h.size, h⟩
        go_region_held3 (fun w' => w'.cell? ⟨b0, f0 + n, none⟩ = some (.int .i64 v) ∧ b0 < w'.heap.size ∧ w'.cell? ⟨b1, f1 + n, none⟩ = some (.int .i64 r) ∧ b1 < w'.heap.size ∧ Below wA.heap.size wA w') (first | (refine hS.out _ ?_; repeat (with_reducible first | exact Below.refl _ _ | exact hwt.out | refine balloc ?_ _ | refine Below.drew ?_ | refine below_set ?_ (by first | omega | (dsimp only; omega)) _))) (first | (go_at_call 6; refine (cH.out _).mono ?_; rintro e wb ⟨rfl, hbb⟩; have hwt := Lib.hid (show Below wA.heap.size wA wb from below_seq (by repeat (with_reducible first | exact Below.refl _ _ | refine balloc ?_ _ | refine Below.drew ?_)) hbb); have hza := hwt.out.size; obtain ⟨hcc, hff⟩ := bcell hbb) | fail)
        all_goals
          have hbA : Below wA.heap.size wA wb := below_seq (by repeat (first | exact Below.refl _ _ | refine balloc ?_ _ | refine Below.drew ?_)) hbb
          have hsz := hbA.size
          go_wp2
          go_ret
          first
          | exact ⟨rfl, below_seq (below_seq hW5.out hbr.out) (balloc hbA _)⟩
          | exact ⟨rfl, below_seq (below_seq hW5.out hbr.out) (set3_below hbA (by omega))⟩
theorem bookKeeps_law_at (vs rs gs cs bs : List Int) (k : Int) (a0 a1 a2 a3 a4 : Option Addr) (c0 c1 c2 c3 c4 : Nat) (w : World) (hL : FarAt w ∧ ErrAt w)
    (l0 : vs.length ≤ 9223372036854775807) (l1 : rs.length ≤ 9223372036854775807) (l2 : gs.length ≤ 9223372036854775807) (l3 : cs.length ≤ 9223372036854775807) (l4 : bs.length ≤ 9223372036854775807)
    (h0 : 0 < vs.length → ∃ b o, a0 = some ⟨b, o, none⟩ ∧ IntsAt w b o vs) (h1 : 0 < rs.length → ∃ b o, a1 = some ⟨b, o, none⟩ ∧ IntsAt w b o rs) (h2 : 0 < gs.length → ∃ b o, a2 = some ⟨b, o, none⟩ ∧ IntsAt w b o gs) (h3 : 0 < cs.length → ∃ b o, a3 = some ⟨b, o, none⟩ ∧ IntsAt w b o cs) (h4 : 0 < bs.length → ∃ b o, a4 = some ⟨b, o, none⟩ ∧ IntsAt w b o bs) :
    Calls Tryd.prog 5 #[.slice a0 vs.length c0, .slice a1 rs.length c1, .slice a2 gs.length c2, .slice a3 cs.length c3, .slice a4 bs.length c4, .int .i64 k] w fun e w' => e = .returned (.bool true) ∧ Below w.heap.size w w' :=
  bk_core vs rs gs cs bs k a0 a1 a2 a3 a4 c0 c1 c2 c3 c4 w hL.1 hL.2 l0 l1 l2 l3 l4 h0 h1 h2 h3 h4 _ (Lib.hid rfl) _ (Lib.hid rfl)
end Go.Proofs.YtebomakihdjllaaDoor
namespace Go.Proofs.YtebomakihdjllaaDoor
open Go.RowKit
set_option linter.unusedVariables false
theorem bookKeeps_law (v0 v1 v2 v3 v4 : Value) (k : Int) (hk : (Lit.int .i64 k).wf = true) (w : World) (q0 : IntsV w v0) (q1 : IntsV w v1) (q2 : IntsV w v2) (q3 : IntsV w v3) (q4 : IntsV w v4) (hL : FarAt w ∧ ErrAt w) :
    Calls Tryd.prog 5 #[v0, v1, v2, v3, v4, .int .i64 k] w fun e w' => e = .returned (.bool true) ∧ Below w.heap.size w w' := by
  obtain ⟨vs, ⟨a0, c0, rfl, h0⟩, m0, -⟩ := q0.sl
  obtain ⟨rs, ⟨a1, c1, rfl, h1⟩, m1, -⟩ := q1.sl
  obtain ⟨gs, ⟨a2, c2, rfl, h2⟩, m2, -⟩ := q2.sl
  obtain ⟨cs, ⟨a3, c3, rfl, h3⟩, m3, -⟩ := q3.sl
  obtain ⟨bs, ⟨a4, c4, rfl, h4⟩, m4, -⟩ := q4.sl
  exact bookKeeps_law_at vs rs gs cs bs k a0 a1 a2 a3 a4 c0 c1 c2 c3 c4 w hL m0 m1 m2 m3 m4 h0 h1 h2 h3 h4
end Go.Proofs.YtebomakihdjllaaDoor
namespace Go.Proofs.YtebomakihdjllaaDoor
open Go.ChangeShapes Go.WideShapes Go.ChangeAt Go.WideMaps Go.WideElems Go.RowKit
set_option maxRecDepth 100000
abbrev farLaid : List (String × DataW Unit) := [("pairstone/curve.Far", Rows.laid_pairstone_curve_Far)]
theorem gFar : Tryd.prog.globalNamed "pairstone/curve.Far" = some 0 := by kernel_rfl
theorem tFar : (Tryd.prog.globals[0]?).map (·.type) = some 23 := by kernel_rfl
/-- The door's own heap meets the condition. -/
theorem farLaid_met (os : Os) (args : Array Value) : laidMetH Tryd.prog farLaid ((World.doorLaid Tryd.prog 400 os).forCall (fun _ _ => 0) ⟨#[], args, []⟩).memory :=
  laidMetH_of_parts3 (fuel := 8) (laidMet_of_run' 8 (by kernel_rfl) (by kernel_rfl)) (by kernel_rfl) (by kernel_rfl)
theorem lt_of_cell {w : World} {b o : Nat} {v : Value} (h : w.cell? ⟨b, o, none⟩ = some v) : b < w.heap.size := by
  rcases Nat.lt_or_ge b w.heap.size with h1 | h1
  · exact h1
  · simp [World.cell?, Array.getElem?_eq_none h1] at h
theorem farLaid_at {W : World} (h : laidMetH Tryd.prog farLaid W) : FarAt W := by
  rw [MakeChecks.laidMetH_plain _ _ _ (by kernel_rfl)] at h
  obtain ⟨ps, ⟨g0, t0, cs0, f0, p0, q0, hg0, ht0, hv0, hd0, _, _⟩, _, _⟩ := h
  obtain rfl := Option.some.inj (gFar.symm.trans hg0)
  obtain rfl := Option.some.inj (tFar.symm.trans ht0)
  obtain ⟨y0, y1, y2, n, hx, hlen, h0, h1, h2⟩ := Deep.trod_struct3 Tryd.underlying23 hd0
  simp only [Rows.laid_pairstone_curve_Far, Prod.mk.injEq, DataW.agg.injEq, List.cons.injEq, and_true] at hx
  obtain ⟨⟨e0, e1, e2⟩, _⟩ := hx
  obtain ⟨a, c0, rfl, _⟩ := DataW.trod_int Tryd.underlying3 h0
  obtain ⟨b, c1, rfl, _⟩ := DataW.trod_int Tryd.underlying3 h1
  obtain ⟨f, c2, rfl⟩ := DataW.trod_bool Tryd.underlying4 h2
  have k3 : Tryd.prog.cellsOf 23 = 3 := by kernel_rfl
  have ki : Tryd.prog.cellsOf 3 = 1 := by kernel_rfl
  have kb : Tryd.prog.cellsOf 4 = 1 := by kernel_rfl
  obtain ⟨l⟩ := cs0
  have h3 : l.length = 3 := by simpa using hlen.trans k3
  match l, h3 with
  | [x, y, z], _ =>
    simp [ki, kb] at c0 c1 c2
    subst c0 c1 c2
    have v0 := World.var?_cell hg0 hv0 0
    have v1 := World.var?_cell hg0 hv0 1
    have v2 := World.var?_cell hg0 hv0 2
    simp at e0 e1 e2 v0 v1 v2
    subst e0 e1 e2
    exact ⟨v0, v1, v2, lt_of_cell v0⟩
end Go.Proofs.YtebomakihdjllaaDoor
namespace Go.Proofs.YtebomakihdjllaaDoor
open Go.ChangeShapes Go.WideShapes Go.ChangeAt Go.WideMaps Go.WideElems Go.RowKit
set_option maxRecDepth 100000
theorem gErr : Tryd.prog.globalNamed "errors.errorType" = some 1 := by kernel_rfl
theorem cutR : (Tryd.prog.cutTypes.find? (·.1 == "internal/reflectlite.rtype")).map (·.2) = some 116 := by kernel_rfl
theorem rowError : ((List.range Tryd.prog.types.size).filter fun t => Tryd.prog.rowNamed t [101, 114, 114, 111, 114]) = [25] := by kernel_rfl
/-- What the condition on the variable says of its cell. -/
theorem err_of_handles {l : List (String × DataW Unit)} {W : World} (h : handlesMet Tryd.prog l W) (hm : ("errors.errorType", Rows.laid_errors_errorType) ∈ l) : ErrAt W := by
  obtain ⟨name, u, ty, e1, e2, e3, e4, e5⟩ := h _ hm
  have en : name = [101, 114, 114, 111, 114] := (Option.some.inj e1).symm
  subst en
  obtain rfl := Option.some.inj (cutR.symm.trans e2)
  have hm : ty ∈ (List.range Tryd.prog.types.size).filter fun t => Tryd.prog.rowNamed t [101, 114, 114, 111, 114] := List.mem_filter.2 ⟨List.mem_range.2 e3, e4⟩
  rw [rowError] at hm
  obtain rfl := List.mem_singleton.1 hm
  have hh : typeHandle Tryd.prog 25 = .pointer (some ⟨2, 25, none⟩) := by kernel_rfl
  rw [hh] at e5
  have v := World.var?_cell gErr e5 0
  simp at v
  exact ⟨v, lt_of_cell v⟩
abbrev errLaid : List (String × DataW Unit) := [("errors.errorType", Rows.laid_errors_errorType)]
abbrev farErrLaid : List (String × DataW Unit) := [("pairstone/curve.Far", Rows.laid_pairstone_curve_Far), ("errors.errorType", Rows.laid_errors_errorType)]
theorem errLaid_met (os : Os) (args : Array Value) : laidMetH Tryd.prog errLaid ((World.doorLaid Tryd.prog 400 os).forCall (fun _ _ => 0) ⟨#[], args, []⟩).memory :=
  laidMetH_of_parts ⟨[], rfl, List.nodup_nil, fun _ _ h => by cases h⟩ (by kernel_rfl)
theorem farErrLaid_met (os : Os) (args : Array Value) : laidMetH Tryd.prog farErrLaid ((World.doorLaid Tryd.prog 400 os).forCall (fun _ _ => 0) ⟨#[], args, []⟩).memory :=
  laidMetH_of_parts (laidMet_of_run' 8 (by kernel_rfl) (by kernel_rfl)) (by kernel_rfl)
theorem errLaid_at {W : World} (h : laidMetH Tryd.prog errLaid W) : ErrAt W := by
  have h' : laidMet Tryd.prog [] W ∧ handlesMet Tryd.prog errLaid W := h
  exact err_of_handles h'.2 (by simp)
theorem farErrLaid_at {W : World} (h : laidMetH Tryd.prog farErrLaid W) : FarAt W ∧ ErrAt W := by
  have h' : laidMet Tryd.prog farLaid W ∧ handlesMet Tryd.prog errLaid W := h
  exact ⟨farLaid_at (by rw [MakeChecks.laidMetH_plain _ _ _ (by kernel_rfl)]; exact h'.1), err_of_handles h'.2 (by simp)⟩
end Go.Proofs.YtebomakihdjllaaDoor
namespace Go.Proofs.YtebomakihdjllaaDoor
open Go.RowKit
set_option maxRecDepth 100000
theorem headL : ∃ l : List Char, Tryd.prog.initOrder = String.ofList l ∧ ((behindMainWord (wordsSigns l)).head? = some "cut".toList ∧
    (match wordsSigns l with
      | h :: s :: _ => if !isSumSigns s then none else if h == "harness".toList then some (true, s) else if h == "ownmain".toList then some (false, s) else none
      | _ => none) = some (true, "3a966905491734d8cd3a199d93d79b235007406c9601357167a4fc8b9c882912".toList)) := by
  refine ⟨?l, ?h1, ?h2, ?h3⟩
  case h1 =>
    unfold Tryd.prog
    first | rfl | (dsimp only; rfl)
  case h2 => kernel_rfl
  case h3 => kernel_rfl
theorem headCut : ∃ r, behindMainWord (wordsSigns Tryd.prog.initOrder.toList) = "cut".toList :: r := by
  obtain ⟨l, h, hw, -⟩ := headL
  rw [h, String.toList_ofList]
  cases e : behindMainWord (wordsSigns l) with
  | nil => rw [e] at hw; cases hw
  | cons c r => rw [e] at hw; exact ⟨r, by rw [Option.some.inj hw]⟩
theorem mainIsK : Tryd.prog.mainIs = some (true, "3a966905491734d8cd3a199d93d79b235007406c9601357167a4fc8b9c882912".toList) := by
  obtain ⟨l, h, -, hm⟩ := headL
  unfold Program.mainIs; rw [h, String.toList_ofList]; exact hm
theorem mayEnterK : Tryd.prog.mayEnter = true := by
  obtain ⟨r, h⟩ := headCut
  unfold Program.mayEnter; rw [h]; kernel_rfl
theorem headLiftsK : Tryd.prog.headLifts = [] := by
  obtain ⟨r, h⟩ := headCut
  unfold Program.headLifts; rw [h]; kernel_rfl
theorem liftsFinalK : Tryd.prog.liftsFinal = false := by
  obtain ⟨r, h⟩ := headCut
  unfold Program.liftsFinal; rw [h, headLiftsK]; kernel_rfl
theorem makeK : Tryd.prog.make = some .cut := by
  obtain ⟨r, h⟩ := headCut
  unfold Program.make; rw [h]; kernel_rfl
end Go.Proofs.YtebomakihdjllaaDoor
namespace Go.Proofs.YtebomakihdjllaaDoor.bookKeeps
open Go.ChangeShapes Go.WideShapes Go.ChangeAt Go.RowKit
set_option linter.unusedVariables false
theorem typesOk : ([34, 34, 34, 34, 34, 3].all fun t => Tryd.prog.readableRec t && decide (t < Tryd.prog.types.size)) = true := by kernel_rfl
set_option maxRecDepth 100000 in
theorem lifted (os : Os) (started : os.Started) (H : Type) (enc : TypeId × Value → H) :
    ReturnsInHanded {} Tryd.checked os 5 .any (fun w args => (Rows.bookKeepsSpec.pre enc Tryd.prog Tryd.f5 [] false w args ∧ laidMetH Tryd.prog farErrLaid w) ∧ sizedMet enc Tryd.prog Tryd.f5 (OpenSpec.ofChange Rows.bookKeepsSpec) false w args)
      (Rows.bookKeepsSpec.post enc Tryd.prog Tryd.f5 false true false false) := by
  refine returnsInHanded_of_change_and (C := Tryd.checked) (X := fun w _ => laidMetH Tryd.prog farErrLaid w) (fun _ _ _ hh h => h.of_heap hh) Tryd.ownK started (by kernel_rfl) Tryd.func5
    (ChangeSpec.witness_shaped (enc := enc) (C := Tryd.checked) (os := os) (X := fun w _ => laidMetH Tryd.prog farErrLaid w) false (World.doorLaid Tryd.prog 400 os) #[.slice none 0 0, .slice none 0 0, .slice none 0 0, .slice none 0 0, .slice none 0 0, .int .i64 0] 8 rfl (World.shaped_of_RefB (by kernel_rfl) (by kernel_rfl)) (by kernel_rfl) (by kernel_rfl) (by kernel_rfl) (farErrLaid_met os _)) ?_
  intro W base args ds gs before hval0 hW hcnd hsz0 hL hholds
  have hval : ∀ (j : Nat) t v, Tryd.f5.params[j]? = some t → args[j]? = some v → Value.okWide Tryd.prog W .any base t v := hval0
  have hW' := hW
  obtain ⟨p, q, hA0, hV, rfl, hfz, hnd⟩ := hW
  have hA : DataW.TrodAll enc Tryd.prog W 0 (fun _ => true) true Tryd.f5.params.toList args.toList ds p := hA0
  obtain ⟨rfl, rfl⟩ := trodVars_none hV
  simp only [List.append_nil] at hW'
  have hlt : ∀ x ∈ p, x.block < W.heap.size := fun x hx => hW'.lt x hx
  have hsz : (DataW.weightsEach Tryd.prog (Tryd.f5.params.toList ++ Rows.bookKeepsSpec.plain.varTypes Tryd.prog) (ds ++ [])).all (· ≤ reachBytes) = true := hsz0
  rw [Tryd.params5] at hA hval hsz
  have hK := hA
  obtain ⟨v0, vs0, d0, ds0, p0, q0, hargs, rfl, rfl, h0, r0⟩ := trodAll_cons hA
  obtain ⟨v1, vs1, d1, ds1, p1, q1, rfl, rfl, rfl, h1, r1⟩ := trodAll_cons r0
  obtain ⟨v2, vs2, d2, ds2, p2, q2, rfl, rfl, rfl, h2, r2⟩ := trodAll_cons r1
  obtain ⟨v3, vs3, d3, ds3, p3, q3, rfl, rfl, rfl, h3, r3⟩ := trodAll_cons r2
  obtain ⟨v4, vs4, d4, ds4, p4, q4, rfl, rfl, rfl, h4, r4⟩ := trodAll_cons r3
  obtain ⟨v5, vs5, d5, ds5, p5, q5, rfl, rfl, rfl, h5, r5⟩ := trodAll_cons r4
  obtain ⟨rfl, rfl, rfl⟩ := trodAll_nil r5
  obtain rfl : args = #[v0, v1, v2, v3, v4, v5] := by cases args; simp_all
  have o0 := open_intl Tryd.underlying34 Tryd.underlying3 (by kernel_rfl) (hval 0 34 v0 rfl rfl) h0
  have o1 := open_intl Tryd.underlying34 Tryd.underlying3 (by kernel_rfl) (hval 1 34 v1 rfl rfl) h1
  have o2 := open_intl Tryd.underlying34 Tryd.underlying3 (by kernel_rfl) (hval 2 34 v2 rfl rfl) h2
  have o3 := open_intl Tryd.underlying34 Tryd.underlying3 (by kernel_rfl) (hval 3 34 v3 rfl rfl) h3
  have o4 := open_intl Tryd.underlying34 Tryd.underlying3 (by kernel_rfl) (hval 4 34 v4 rfl rfl) h4
  obtain ⟨a5, rfl, rfl, rfl, w5⟩ := open_int Tryd.underlying3 (hval 5 3 v5 rfl rfl) h5
  clear hA0 hval0
  refine (bookKeeps_law v0 v1 v2 v3 v4 a5 w5 W o0 o1 o2 o3 o4 (farErrLaid_at hL)).mono fun e W' ⟨he, hg⟩ => ?_
  subst he
  exact ⟨_, rfl, post_of_below (pa := _) (pv := []) hW' (fun _ _ _ => (trodAll_cons_mk (shut_bool Tryd.underlying4 _) trodAll_mk0)) (fun sp hsp => trodAll_stays Tryd.laidOutK hg typesOk hK (fun x hx => ⟨hlt x hx, hsp x (by first | exact hx | (simp at hx) | simpa using hx)⟩)) (fun _ _ => rfl) (by simp) hg (ok_one (by kernel_rfl) rfl (okWide_bool_mk Tryd.underlying4 _))⟩

theorem over : Rows.bookKeepsRow.holds Tryd.pinned (OpenSpec.ofChange Rows.bookKeepsSpec) :=
  OpenClaim.holds_of_wide 5 Tryd.f5 rfl rfl rfl rfl rfl rfl rfl ⟨rfl, rfl, rfl, rfl, rfl⟩ rfl rfl rfl rfl rfl (by kernel_rfl) Tryd.func5 (by show joinedFacts Tryd.prog _ _ _ _ = true; unfold joinedFacts; rw [mayEnterK, liftsFinalK, makeK]; kernel_rfl)
    (of_decide_eq_true (by kernel_rfl)) (by unfold Func.isWrapper; first | (rw [if_pos (by decide +kernel)]; kernel_rfl) | (rw [if_neg (by decide +kernel)]; exact ⟨rfl, rfl⟩))
    (fun os started H enc _ => lifted os started H enc)
theorem card : Rows.BookKeepsCardSaid :=
  Claim7.holds_tied_plain_at .later [] [.data, .handle] true (true, "3a966905491734d8cd3a199d93d79b235007406c9601357167a4fc8b9c882912") true
    over (fun _ h => by cases h) (by kernel_rfl) (fun _ h => by cases h) bookKeeps_row_tie rfl ⟨rfl, rfl⟩ mainIsK rfl
    (fun f fn hf hfn => by
      obtain rfl : f = 5 := Option.some.inj ((show Tryd.prog.funcNamed "pairstone/stonelaw3.BookKeeps" = some 5 by kernel_rfl).symm.trans hf) |>.symm
      obtain rfl : fn = Tryd.f5 := (Option.some.inj (Tryd.func5.symm.trans hfn)).symm
      exact ⟨by kernel_rfl, fun j t ht => by
        rw [Tryd.params5] at ht
        have hm : t ∈ ([34, 34, 34, 34, 34, 3] : List TypeId) := by simpa using Array.mem_of_getElem? ht
        have hall : (([34, 34, 34, 34, 34, 3] : List TypeId).all fun u => !Tryd.prog.wantsStandIn u) = true := by kernel_rfl
        exact (show Tryd.prog.wantsStandIn t = false by simpa using List.all_eq_true.1 hall t hm)⟩)
    (by kernel_rfl)
#print axioms card
end Go.Proofs.YtebomakihdjllaaDoor.bookKeeps
