/- The statement of BatchHolds: for every input the law returns true, and the arguments read as they did. (its listed variable reads as laid; the card ties it) -/
import Derived.Test.YtcphbigiooibcaaDoorBv
import Derived.Laws.OwnMore
import Derived.Test.YtcphbigiooibcaaDoorQm
import Derived.SliceStrings
import Derived.SizedLaws
import Derived.Laws.Entries
import Derived.Test.YtcphbigiooibcaaDoorSb
import Derived.Deep.RegionHeld3
import Derived.Deep.CutRange
import Derived.Deep.AppendLies
import Derived.Deep.DeepCutAuto
import Derived.Test.YtcphbigiooibcaaDoorFr
import Derived.Test.YtcphbigiooibcaaDoorFs
import Derived.Test.YtcphbigiooibcaaDoorTie
import Derived.Test.YtcphbigiooibcaaDoorCards
import Derived.Test.YtcphbigiooibcaaDoorFar
import Derived.Test.YtcphbigiooibcaaDoorJf
import Derived.SevenTiedAt
namespace Go.Proofs.YtcphbigiooibcaaDoor
open Go.RowKit
set_option maxRecDepth 100000
set_option linter.unusedVariables false
set_option linter.unusedSimpArgs false
/-- The places of those that are not right. -/
def wrongs (es : List Int) : Nat → List Int
  | 0 => []
  | n + 1 => if (sq (es.getD n 0)).far then wrongs es n else wrongs es n ++ [(n : Int)]
theorem wrongs_len (es : List Int) : ∀ n, (wrongs es n).length ≤ n
  | 0 => Nat.le_refl _
  | n + 1 => by
    have := wrongs_len es n
    unfold wrongs
    split <;> simp <;> omega
set_option maxHeartbeats 8000000 in
theorem bwrong_e (L : List It) (v1 v2 v3 : Value) (w : World) (hF : FarAt w) (hl : L.length ≤ 12) (hok : ∀ i (h : i < L.length), It.ok L[i])
    (h1 : SpSl w v1 (L.map (·.key))) (h2 : StrSl w v2 (L.map (·.t))) (h3 : SlSl w v3 (L.map fun x => (x.R, x.S))) :
    Calls Tryd.prog 23 #[v1, v2, v3] w fun e w' => ∃ v', e = .returned (.tuple #[v', .nilIface]) ∧ IntSl w' v' (wrongs (L.map (·.e)) L.length) ∧ Below w.heap.size w w' := by
  obtain ⟨a1, c1, rfl, h1⟩ := h1
  obtain ⟨a2, c2, rfl, h2⟩ := h2
  obtain ⟨a3, c3, rfl, h3⟩ := h3
  simp only [List.length_map] at h1 h2 h3 ⊢
  have hE := Lib.hid (fun n (h : n < L.length) => (show (L.map (·.e)).getD n 0 = L[n].e by simp [h]))
  have hwl := Lib.hid (wrongs_len (L.map (·.e)))
  replace hok := Lib.hid hok
  replace h1 := Lib.hid h1
  replace h2 := Lib.hid h2
  replace h3 := Lib.hid h3
  replace hF := Lib.hid hF
  go_enter Tryd.func23, Tryd.ntmps23
  go_wp2_with fail
  refine (bready_e L.length a1 a2 a3 c1 c2 c3 w hl).mono ?_; rintro e w1 ⟨rfl, hb1⟩
  have hB1 := Lib.hid hb1
  have hF1 := Lib.hid (hF.out.below hb1)
  have i1 := Lib.hid (fun hp => by obtain ⟨b, off, e, hs⟩ := h1.out hp; exact (⟨b, off, e, hs.below hb1⟩ : ∃ b off, a1 = some ⟨b, off, none⟩ ∧ SpotsAt w1 b off (L.map (·.key))))
  have i2 := Lib.hid (fun hp => by obtain ⟨b, off, e, hs⟩ := h2.out hp; exact (⟨b, off, e, hs.below hb1⟩ : ∃ b off, a2 = some ⟨b, off, none⟩ ∧ StrsAt w1 b off (L.map (·.t))))
  have i3 := Lib.hid (fun hp => by obtain ⟨b, off, e, hs⟩ := h3.out hp; exact (⟨b, off, e, hs.below hb1⟩ : ∃ b off, a3 = some ⟨b, off, none⟩ ∧ SlsAt w1 b off (L.map fun x => (x.R, x.S))))
  clear h1 h2 h3 hF hb1
  go_wp2
  go_loopw [9, 23] (fun o i wr => ∃ (n : Nat) (u : Value), n ≤ L.length ∧ i = .int .i64 n ∧ u = o ∧ wr.ownsRow w1.heap.size 3 1 u (wrongs (L.map (·.e)) n).length ((wrongs (L.map (·.e)) n).map (Value.int .i64)) ∧ Below w1.heap.size w1 wr) (fun _ i _ => L.length - (intOf i).toNat)
  case atStart => exact ⟨0, _, Nat.zero_le _, rfl, rfl, World.ownsRow_nil _ _ _ _, Below.refl _ _⟩
  case round =>
    obtain ⟨n, u, hn, rfl, rfl, hown, hb⟩ := hrel
    replace hown := Lib.hid hown
    replace hb := Lib.hid hb
    by_cases hlt : n < L.length
    · obtain ⟨b1, o1, rfl, l1⟩ := i1.out (by simpa using (by omega : 0 < L.length))
      obtain ⟨b2, o2, rfl, l2⟩ := i2.out (by simpa using (by omega : 0 < L.length))
      obtain ⟨b3, o3, rfl, l3⟩ := i3.out (by simpa using (by omega : 0 < L.length))
      have hd := hE.out n hlt
      have hok1 := hok.out n hlt
      have hw1 := hwl.out n
      have l1 := Lib.hid l1
      have l2 := Lib.hid l2
      have l3 := Lib.hid l3
      have hA : Hid (∀ w', Below w1.heap.size w1 w' → w'.cell? ⟨b1, o1 + n * 3, none⟩ = some (.int .i64 L[n].key.x) ∧ w'.cell? ⟨b1, o1 + n * 3 + 1, none⟩ = some (.int .i64 L[n].key.y) ∧ w'.cell? ⟨b1, o1 + n * 3 + 2, none⟩ = some (.bool L[n].key.far) ∧
          w'.cell? ⟨b2, o2 + n, none⟩ = some (.string L[n].t) ∧ w'.cell? ⟨b3, o3 + n * 4, none⟩ = some (.int .i64 L[n].R.x) ∧ w'.cell? ⟨b3, o3 + n * 4 + 1, none⟩ = some (.int .i64 L[n].R.y) ∧ w'.cell? ⟨b3, o3 + n * 4 + 2, none⟩ = some (.bool L[n].R.far) ∧ w'.cell? ⟨b3, o3 + n * 4 + 3, none⟩ = some (.int .i64 L[n].S) ∧
          b1 < w'.heap.size ∧ b2 < w'.heap.size ∧ b3 < w'.heap.size) := Lib.hid (fun w' hb => by
        have k1 := l1.out.below hb
        have k2 := l2.out.below hb
        have k3 := l3.out.below hb
        have e1 := k1.cx n (by simpa using hlt)
        have e2 := k1.cy n (by simpa using hlt)
        have e3 := k1.cf n (by simpa using hlt)
        have e4 := k2.c n (by simpa using hlt)
        have e5 := k3.cx n (by simpa using hlt)
        have e6 := k3.cy n (by simpa using hlt)
        have e7 := k3.cf n (by simpa using hlt)
        have e8 := k3.cs n (by simpa using hlt)
        simp only [List.getElem_map] at e1 e2 e3 e4 e5 e6 e7 e8
        exact ⟨e1, e2, e3, e4, e5, e6, e7, e8, k1.lt, k2.lt, k3.lt⟩)
      clear l1 l2 l3
      generalize L[n] = I at *
      obtain ⟨A, t, R, S, f⟩ := I
      simp only at hA hd
      replace hok1 := Lib.hid hok1
      replace hd := Lib.hid hd
      obtain ⟨e1, e2, e3, e4, e5, e6, e7, e8, g1, g2, g3⟩ := hA.out wr hb.out
      have hFr := Lib.hid (hF1.out.below hb.out)
      clear hA
      cases hf : (sq f).far with
      | true =>
        have hs : Hid (wrongs (L.map (·.e)) (n + 1) = wrongs (L.map (·.e)) n) := Lib.hid (by show (if (sq ((L.map (·.e)).getD n 0)).far then _ else _) = _; rw [hd.out, if_pos hf])
        replace hf := Lib.hid hf
        go_wp2_with fail
        refine wp_region_grow Tryd.mixed (by kernel_rfl) ?_
        repeat (quiet_step ((go_at_call 20; exact grow_of (vfy_e A R t S f true _ (hFr.out.below (below_seq (below_alloc _ _) (Grew.h _))) hok1 hf))))
        refine wpQuiet_nil ?_
        intro _ hw'
        obtain ⟨x, rfl⟩ := hw'
        have hx := Lib.hid (below_seq (below_alloc _ _) x.h)
        have ow2 := Lib.hid (own_below hown.out hx.out)
        have hby := Lib.hid (below_seq hb.out hx.out)
        clear hown hx hb e1 e2 e3 e4 e5 e6 e7 e8
        go_wp2
        go_roundw
        case rel => exact ⟨n + 1, _, by omega, by go_num, rfl, by rw [hs.out]; exact ow2.out, hby.out⟩
        case measure => simp [intOf]; omega
      | false =>
        have hs : Hid (wrongs (L.map (·.e)) (n + 1) = wrongs (L.map (·.e)) n ++ [(n : Int)]) := Lib.hid (by show (if (sq ((L.map (·.e)).getD n 0)).far then _ else _) = _; rw [hd.out, if_neg (by rw [hf]; decide)])
        have hs2 : Hid ((wrongs (L.map (·.e)) (n + 1)).length = (wrongs (L.map (·.e)) n).length + 1) := Lib.hid (by rw [hs.out]; simp)
        replace hf := Lib.hid hf
        generalize wrongs (L.map (·.e)) n = W at *
        go_wp2_with fail
        refine wp_region_grow Tryd.mixed (by kernel_rfl) ?_
        repeat (quiet_step ((go_at_call 20; exact grow_of (vfy_e A R t S f false _ (hFr.out.below (below_seq (below_alloc _ _) (Grew.h _))) hok1 hf))))
        refine wpQuiet_nil ?_
        intro _ hw'
        obtain ⟨x, rfl⟩ := hw'
        have hx := Lib.hid (below_seq (below_alloc _ _) x.h)
        have ow2 := Lib.hid (own_below hown.out hx.out)
        have hby := Lib.hid (below_seq hb.out hx.out)
        have zy := hby.out.size
        clear hown hx hb e1 e2 e3 e4 e5 e6 e7 e8
        generalize hyw : x.w = y at *
        clear hyw x
        go_wp2_with (first | (at_builtin; refine wpl_append_int rfl _ _ _ rfl (by kernel_rfl) w1.heap.size _ W W.length rfl (ow2.out.alloc _) rfl (by omega) (by simp only [World.size_alloc]; omega) y.heap.size n rfl (by go_simp) ?_; intro v' w3 hown' hgrow hbel hloc; replace hown' := Lib.hid hown'; replace hbel := Lib.hid (hbel w1 (balloc hby.out _)); clear hgrow hloc ow2 hby) | fail)
        go_wp2
        go_roundw
        case rel => exact ⟨n + 1, _, by omega, by go_num, rfl, by rw [hs2.out, hs.out]; exact hown'.out, hbel.out⟩
        case measure => simp [intOf]; omega
    · obtain rfl : n = L.length := by omega
      have hI : Hid (IntSl wr u (wrongs (L.map (·.e)) L.length)) := Lib.hid (own_ints hown.out rfl)
      have hBr := Lib.hid (below_seq hB1.out hb.out)
      go_wp2
      go_ret2
      exact ⟨_, rfl, hI.out, hBr.out⟩
end Go.Proofs.YtcphbigiooibcaaDoor
namespace Go.Proofs.YtcphbigiooibcaaDoor
open Go.RowKit
set_option linter.unusedVariables false
/-- The cells of some seals. -/
def slCells : List (Sp × Int) → List Value
  | [] => []
  | s :: l => .int .i64 s.1.x :: .int .i64 s.1.y :: .bool s.1.far :: .int .i64 s.2 :: slCells l
theorem slCells_len : ∀ l : List (Sp × Int), (slCells l).length = l.length * 4
  | [] => rfl
  | s :: l => by simp only [slCells, List.length_cons, slCells_len l]; omega
theorem slCells_snoc : ∀ (l : List (Sp × Int)) (s : Sp × Int), slCells (l ++ [s]) = slCells l ++ [.int .i64 s.1.x, .int .i64 s.1.y, .bool s.1.far, .int .i64 s.2]
  | [], _ => rfl
  | t :: l, s => by simp only [List.cons_append, slCells, slCells_snoc l s]
theorem slCells_get : ∀ (l : List (Sp × Int)) (i : Nat) (h : i < l.length), (slCells l)[i * 4]? = some (.int .i64 l[i].1.x) ∧ (slCells l)[i * 4 + 1]? = some (.int .i64 l[i].1.y) ∧ (slCells l)[i * 4 + 2]? = some (.bool l[i].1.far) ∧ (slCells l)[i * 4 + 3]? = some (.int .i64 l[i].2)
  | [], _, h => absurd h (Nat.not_lt_zero _)
  | s :: l, 0, _ => ⟨rfl, rfl, rfl, rfl⟩
  | s :: l, i + 1, h => by
    have := slCells_get l i (by simpa using h)
    rw [Nat.add_mul]
    exact this
theorem slCells_set : ∀ (l : List (Sp × Int)) (i : Nat) (h : i < l.length) (n : Int), (slCells l).set (i * 4 + 3) (.int .i64 n) = slCells (l.set i (l[i].1, n))
  | [], _, h, _ => absurd h (Nat.not_lt_zero _)
  | s :: l, 0, _, n => rfl
  | s :: l, i + 1, h, n => by
    have := slCells_set l i (by simpa using h) n
    rw [show (i + 1) * 4 + 3 = (i * 4 + 3) + 1 + 1 + 1 + 1 by omega]
    simp only [slCells, List.set_cons_succ, List.getElem_cons_succ, this]
theorem own_seals {w : World} {B e : Nat} {v : Value} {l : List (Sp × Int)} {n : Nat} (h : w.ownsRow B e 4 v n (slCells l)) (hn : n = l.length) : SlSl w v l := by
  subst hn
  obtain ⟨hl, h | ⟨g, cap, cur, rfl, hb, hg, hc, -, -, ht⟩⟩ := h
  · obtain ⟨rfl, h0⟩ := h
    exact ⟨none, 0, by rw [h0], fun hp => absurd h0 (by omega)⟩
  · refine ⟨_, _, rfl, fun _ => ⟨g, 0, rfl, (Array.getElem?_eq_some_iff.1 hg).1, fun i hi => ?_, fun i hi => ?_, fun i hi => ?_, fun i hi => ?_⟩⟩
    all_goals
      obtain ⟨k1, k2, k3, k4⟩ := slCells_get l i hi
      rw [cell_of_row w g _ cur e (0, 0) hg]
      simp only [Nat.zero_add]
      rw [← ht, List.getElem?_take, if_pos (by omega), Array.getElem?_toList] at k1 k2 k3 k4
      assumption
theorem SlSl.made (w : World) (l : List (Sp × Int)) (k n cap : Nat) (cs : Array Value) (t : TypeId) (hk : k = w.heap.size) (hc : cs = (slCells l).toArray) (hn : n = l.length) : SlSl (w.alloc (.cells cs t)) (.slice (some ⟨k, 0, none⟩) n cap) l := by
  subst hk hc hn
  refine ⟨_, _, rfl, fun _ => ⟨w.heap.size, 0, rfl, by simp, fun i hi => ?_, fun i hi => ?_, fun i hi => ?_, fun i hi => ?_⟩⟩
  all_goals
    obtain ⟨k1, k2, k3, k4⟩ := slCells_get l i hi
    rw [cell_of_row _ w.heap.size _ (slCells l).toArray t (0, 0) (heap_alloc_new w _)]
    simp only [Nat.zero_add, List.getElem?_toArray]
    assumption
theorem StrSl.made (w : World) (l : List ByteArray) (k n cap : Nat) (cs : Array Value) (t : TypeId) (hk : k = w.heap.size) (hc : cs = (l.map Value.string).toArray) (hn : n = l.length) : StrSl (w.alloc (.cells cs t)) (.slice (some ⟨k, 0, none⟩) n cap) l := by
  subst hk hc hn
  refine ⟨_, _, rfl, fun _ => ⟨w.heap.size, 0, rfl, by simp, fun i hi => ?_⟩⟩
  have k1 : (l.map Value.string)[i]? = some (.string l[i]) := by simp [hi]
  rw [cell_of_row _ w.heap.size _ (l.map Value.string).toArray t (0, 0) (heap_alloc_new w _)]
  simp only [Nat.zero_add, List.getElem?_toArray]
  assumption
theorem info_seal : (Tryd.prog.info? 25).map (fun i => (i.zero, i.size, i.bytes)) = some (some (.agg #[.int .i64 0, .int .i64 0, .bool false, .int .i64 0]), 4, 32) := by kernel_rfl
theorem wpl_append_seal {w : World} {ops : Array Oper} {rest : List Oper} {o : Oper} {a : Act} {Q : Exit → Act → World → Prop} (hgd : o.guard = none) (s x : Operand) (t : TypeId)
    (ho : o.op = .call { callee := .builtin .append, args := #[s, x], argTypes := #[t, t] }) (ht : Tryd.prog.underlying t = some (.slice 25)) (B : Nat) (v : Value) (l : List (Sp × Int)) (n : Nat) (hs : a.eval s = v)
    (hown : w.ownsRow B 25 4 v n (slCells l)) (hn : l.length = n) (hl : n ≤ 1000000) (hB : B ≤ w.heap.size) (g : Nat) (c : Sp × Int) (hx : a.eval x = .slice (some ⟨g, 0, none⟩) 1 1)
    (h0 : w.cell? ⟨g, 0, none⟩ = some (.int .i64 c.1.x)) (h1 : w.cell? ⟨g, 1, none⟩ = some (.int .i64 c.1.y)) (h2 : w.cell? ⟨g, 2, none⟩ = some (.bool c.1.far)) (h3 : w.cell? ⟨g, 3, none⟩ = some (.int .i64 c.2))
    (h : ∀ v' w', w'.ownsRow B 25 4 v' (n + 1) (slCells (l ++ [c])) → w.grownBy w' v.ownBlock → (∀ a, Below B a w → Below B a w') → (v'.ownBlock = v.ownBlock ∨ v'.ownBlock = some w.heap.size) → wpList Tryd.prog ops Q rest (a.put o.dst v') w') :
    wpList Tryd.prog ops Q (o :: rest) a w := by
  obtain ⟨i0, hi, hz0, hz1, hz2⟩ := info_parts info_seal
  refine wpList_append_own_at _ hgd s x _ ho B _ i0 _ 4 32 ht hi hz0 hz1 hz2 rfl (by decide) v n _ hs hown ⟨g, 0, none⟩ 1 1 [.int .i64 c.1.x, .int .i64 c.1.y, .bool c.1.far, .int .i64 c.2] hx rfl ?_ ?_ (by unfold maxLen; omega) (by omega) hB ?_
  · intro j u hj
    have e : ∀ k, (⟨g, 0, none⟩ : Addr).add k = ⟨g, k, none⟩ := fun k => by rw [add_none, Nat.zero_add]
    rw [e]
    match j, hj with
    | 0, hj => cases hj; exact h0
    | 1, hj => cases hj; exact h1
    | 2, hj => cases hj; exact h2
    | 3, hj => cases hj; exact h3
  · intro u hu
    simp only [List.mem_cons, List.not_mem_nil, or_false] at hu
    rcases hu with rfl | rfl | rfl | rfl <;> rfl
  · intro v' w' h3 h4 _ h6
    rw [← slCells_snoc] at h3
    exact h v' w' h3 h4 (fun a hb => Below.grown hb h4 hB (fun k hk => (hown.lt k hk).1)) h6
/-- Two slices that own no block together. -/
def Ap (u v : Value) : Prop := ∀ g, u.ownBlock = some g → v.ownBlock ≠ some g
theorem Ap.symm {u v : Value} (h : Ap u v) : Ap v u := fun g hv hu => h g hu hv
theorem Ap.nil (v : Value) : Ap (.slice none 0 0) v := fun g h => by cases h
/-- What is appended to one leaves the other one. -/
theorem row_pair {w w' : World} {B e size n : Nat} {u u' v : Value} {ys : List Value} (hv : w.ownsRow B e size v n ys) (ha : Ap u v) (hg : w.grownBy w' u.ownBlock) (hl : u'.ownBlock = u.ownBlock ∨ u'.ownBlock = some w.heap.size) : w'.ownsRow B e size v n ys ∧ Ap u' v := by
  refine ⟨hv.kept hg ?_, fun g h1 h2 => ?_⟩
  · cases hvb : v.ownBlock with
    | none => exact .inl rfl
    | some k => exact .inr (fun e => ha k e.symm hvb)
  · rcases hl with e | e
    · exact ha g (e.symm.trans h1) h2
    · rw [e] at h1
      have := (hv.lt g h2).2
      cases h1
      exact Nat.lt_irrefl _ this
/-- A seal that lies there. -/
structure SlAt (w : World) (b : Nat) (R : Sp) (S : Int) : Prop where
  c0 : w.cell? ⟨b, 0, none⟩ = some (.int .i64 R.x)
  c1 : w.cell? ⟨b, 1, none⟩ = some (.int .i64 R.y)
  c2 : w.cell? ⟨b, 2, none⟩ = some (.bool R.far)
  c3 : w.cell? ⟨b, 3, none⟩ = some (.int .i64 S)
  f0 : w.frozen? ⟨b, 0, none⟩ = false
  f1 : w.frozen? ⟨b, 1, none⟩ = false
  f2 : w.frozen? ⟨b, 2, none⟩ = false
  f3 : w.frozen? ⟨b, 3, none⟩ = false
  lt : b < w.heap.size
theorem SlAt.below {w w' : World} {b : Nat} {R : Sp} {S : Int} (h : SlAt w b R S) (hb : Below w.heap.size w w') : SlAt w' b R S := by
  obtain ⟨k, k'⟩ := bcell hb
  exact ⟨(k _ _ h.lt).trans h.c0, (k _ _ h.lt).trans h.c1, (k _ _ h.lt).trans h.c2, (k _ _ h.lt).trans h.c3, (k' _ _ h.lt).trans h.f0, (k' _ _ h.lt).trans h.f1, (k' _ _ h.lt).trans h.f2, (k' _ _ h.lt).trans h.f3, Nat.lt_of_lt_of_le h.lt hb.size⟩
theorem SlAt.drew {w : World} {b : Nat} {R : Sp} {S : Int} (h : SlAt w b R S) : SlAt w.drew b R S := ⟨h.c0, h.c1, h.c2, h.c3, h.f0, h.f1, h.f2, h.f3, h.lt⟩
theorem SlAt.fresh (w : World) (R : Sp) (S : Int) (t : TypeId) : SlAt (w.alloc (.cells #[.int .i64 R.x, .int .i64 R.y, .bool R.far, .int .i64 S] t)) w.heap.size R S := ⟨by simp, by simp, by simp, by simp, by simp, by simp, by simp, by simp, by simp⟩
theorem SlAt.set4 {w : World} {b : Nat} {R0 : Sp} {S0 : Int} (h : SlAt w b R0 S0) (R : Sp) (S : Int) : SlAt ((((w.setCell ⟨b, 0, none⟩ (.int .i64 R.x)).setCell ⟨b, 1, none⟩ (.int .i64 R.y)).setCell ⟨b, 2, none⟩ (.bool R.far)).setCell ⟨b, 3, none⟩ (.int .i64 S)) b R S := by
  have k := set4_cell (x := .int .i64 R.x) (y := .int .i64 R.y) (z := .bool R.far) (p := .int .i64 S) h.c0 h.c1 h.c2 h.c3
  exact ⟨k.1, k.2.1, k.2.2.1, k.2.2.2, by simp only [World.frozen?_setCell]; exact h.f0, by simp only [World.frozen?_setCell]; exact h.f1, by simp only [World.frozen?_setCell]; exact h.f2, by simp only [World.frozen?_setCell]; exact h.f3, by simpa [World.setCell] using h.lt⟩
end Go.Proofs.YtcphbigiooibcaaDoor
namespace Go.Proofs.YtcphbigiooibcaaDoor
set_option linter.unusedVariables false
/-- The seal of a text by x and k, to be looked at. -/
def mkIt (x k : Int) (t : ByteArray) : It :=
  ⟨sq (4 * x), t, sq (4 * k), (k + askN (sq (4 * k)) (sq (4 * x)) t.data.toList * x) % 1013, 4 * ((k + askN (sq (4 * k)) (sq (4 * x)) t.data.toList * x) % 1013) + -(4 * k + 4 * x * askN (sq (4 * k)) (sq (4 * x)) t.data.toList)⟩
theorem mkIt_ok (x k : Int) (t : ByteArray) (h : t.size ≤ 60) : (mkIt x k t).ok := ⟨4 * x, 4 * k, rfl, rfl, rfl, h, Int.emod_nonneg _ (by decide), Int.emod_lt_of_pos _ (by decide)⟩
theorem mkIt_e (x k : Int) (t : ByteArray) : (mkIt x k t).e % 4052 = 0 := by
  unfold mkIt
  simp only
  generalize askN _ _ _ = c
  rw [Int.mul_assoc, Int.mul_comm x c]
  generalize c * x = p
  omega
/-- With another number it is another one. -/
def It.add (i : It) (m : Int) : It := ⟨i.key, i.t, i.R, (i.S + m) % 1013, i.e + 4 * ((i.S + m) % 1013 - i.S)⟩
theorem It.plus_ok {i : It} (h : i.ok) (m : Int) : (i.add m).ok := by
  obtain ⟨a, r, ha, hr, he, hz, -, -⟩ := h
  exact ⟨a, r, ha, hr, by simp only [It.add]; rw [he]; omega, hz, Int.emod_nonneg _ (by decide), Int.emod_lt_of_pos _ (by decide)⟩
theorem It.plus_e {i : It} (h : i.e % 4052 = 0) (m : Int) : (i.add m).e % 4052 = (4 * m) % 4052 := by
  simp only [It.add]; omega
/-- All seals. -/
def its : List Int → List Int → List ByteArray → List It
  | x :: xs, k :: ks, t :: ts => mkIt x k t :: its xs ks ts
  | _, _, _ => []
theorem its_len : ∀ (xs ks : List Int) (ts : List ByteArray), ks.length = xs.length → ts.length = xs.length → (its xs ks ts).length = xs.length
  | [], _, _, _, _ => rfl
  | x :: xs, k :: ks, t :: ts, h1, h2 => by simp only [its, List.length_cons]; rw [its_len xs ks ts (by simpa using h1) (by simpa using h2)]
  | x :: xs, [], _, h, _ => by simp at h
  | x :: xs, _ :: _, [], _, h => by simp at h
theorem its_get : ∀ (xs ks : List Int) (ts : List ByteArray) (i : Nat) (h1 : i < xs.length) (h2 : i < ks.length) (h3 : i < ts.length) (h : i < (its xs ks ts).length), (its xs ks ts)[i] = mkIt xs[i] ks[i] ts[i]
  | [], _, _, _, h, _, _, _ => absurd h (Nat.not_lt_zero _)
  | _ :: _, [], _, _, _, h, _, _ => absurd h (Nat.not_lt_zero _)
  | _ :: _, _ :: _, [], _, _, _, h, _ => absurd h (Nat.not_lt_zero _)
  | x :: xs, k :: ks, t :: ts, 0, _, _, _, _ => rfl
  | x :: xs, k :: ks, t :: ts, i + 1, h1, h2, h3, h => by
    simp only [its, List.getElem_cons_succ]
    exact its_get xs ks ts i (by simpa using h1) (by simpa using h2) (by simpa using h3) _
theorem its_t : ∀ (xs ks : List Int) (ts : List ByteArray), ks.length = xs.length → ts.length = xs.length → (its xs ks ts).map (·.t) = ts
  | [], _, [], _, _ => rfl
  | [], _, _ :: _, _, h => by simp at h
  | x :: xs, k :: ks, t :: ts, h1, h2 => by simp only [its, List.map_cons]; rw [its_t xs ks ts (by simpa using h1) (by simpa using h2)]; rfl
  | x :: xs, [], _, h, _ => by simp at h
  | x :: xs, _ :: _, [], _, h => by simp at h
theorem its_e : ∀ (xs ks : List Int) (ts : List ByteArray), ∀ e ∈ (its xs ks ts).map (·.e), e % 4052 = 0
  | [], _, _, e, h => by simp [its] at h
  | _ :: _, [], _, e, h => by simp [its] at h
  | _ :: _, _ :: _, [], e, h => by simp [its] at h
  | x :: xs, k :: ks, t :: ts, e, h => by
    simp only [its, List.map_cons, List.mem_cons] at h
    rcases h with rfl | h
    · exact mkIt_e x k t
    · exact its_e xs ks ts e h
theorem mul_z4 {e c : Int} (h : e % 4052 = 0) : (e * c) % 4052 = 0 := by
  rw [Int.mul_emod, h, Int.zero_mul]; rfl
theorem dot_z : ∀ (es ws : List Int), (∀ e ∈ es, e % 4052 = 0) → dot es ws % 4052 = 0
  | [], ws, _ => by rw [dot_nil]; rfl
  | _ :: _, [], _ => rfl
  | e :: es, c :: cs, h => by
    have h1 := dot_z es cs (fun x hx => h x (List.mem_cons_of_mem _ hx))
    have h2 := mul_z4 (c := c) (h e (List.mem_cons_self ..))
    simp only [dot]
    omega
theorem dot_far {es ws : List Int} (h : ∀ e ∈ es, e % 4052 = 0) : (sq (dot es ws)).far = true := sq_far.mpr (dot_z es ws h)
theorem dot_set : ∀ (es ws : List Int) (i : Nat) (h1 : i < es.length) (h2 : i < ws.length) (x : Int), dot (es.set i x) ws = dot es ws + (x - es[i]) * ws[i]
  | [], _, _, h, _, _ => absurd h (Nat.not_lt_zero _)
  | _ :: _, [], _, _, h, _ => absurd h (Nat.not_lt_zero _)
  | e :: es, c :: cs, 0, _, _, x => by simp only [List.set_cons_zero, dot, List.getElem_cons_zero, Int.sub_mul]; omega
  | e :: es, c :: cs, i + 1, h1, h2, x => by
    have := dot_set es cs i (by simpa using h1) (by simpa using h2) x
    simp only [List.set_cons_succ, dot, List.getElem_cons_succ, this]
    omega
theorem mul_13 {m c : Int} (m0 : 1 ≤ m) (m1 : m < 1013) (c0 : 1 ≤ c) (c1 : c < 1013) : (m * c) % 1013 ≠ 0 := fun h => by
  have := q_inj (n := c) (m := 0) m0 m1 (by rw [h, Int.mul_zero]; rfl)
  omega
/-- One that is wrong is not made up for by the others. -/
theorem dot_not {es ws : List Int} (h : ∀ e ∈ es, e % 4052 = 0) (i : Nat) (h1 : i < es.length) (h2 : i < ws.length) {x m : Int} (hx : x % 4052 = (4 * m) % 4052) (m0 : 1 ≤ m) (m1 : m < 1013) (c0 : 1 ≤ ws[i]) (c1 : ws[i] < 1013) : (sq (dot (es.set i x) ws)).far = false := by
  refine sq_far_not ?_
  rw [dot_set es ws i h1 h2 x]
  have h3 := dot_z es ws h
  have h4 := h es[i] (List.getElem_mem h1)
  have h5 := mul_13 m0 m1 c0 c1
  have h6 : ((x - es[i]) * ws[i]) % 4052 = (4 * (m * ws[i])) % 4052 := by
    rw [← Int.mul_assoc, Int.mul_emod, Int.mul_emod (4 * m)]
    congr 2
    omega
  omega
theorem wrongs_none (es : List Int) (h : ∀ e ∈ es, e % 4052 = 0) : ∀ n, n ≤ es.length → wrongs es n = []
  | 0, _ => rfl
  | n + 1, hn => by
    have he : (sq (es.getD n 0)).far = true := sq_far.mpr (h _ (by rw [List.getD_eq_getElem?_getD, List.getElem?_eq_getElem (by omega)]; exact List.getElem_mem _))
    rw [wrongs, if_pos he, wrongs_none es h n (by omega)]
theorem wrongs_one (es : List Int) (h : ∀ e ∈ es, e % 4052 = 0) (i : Nat) (h1 : i < es.length) {x m : Int} (hx : x % 4052 = (4 * m) % 4052) (m0 : 1 ≤ m) (m1 : m < 1013) : ∀ n, n ≤ es.length → wrongs (es.set i x) n = if i < n then [(i : Int)] else []
  | 0, _ => by rw [if_neg (Nat.not_lt_zero _)]; rfl
  | n + 1, hn => by
    have ih := wrongs_one es h i h1 hx m0 m1 n (by omega)
    by_cases hin : i = n
    · subst hin
      have he : ¬ (sq ((es.set i x).getD i 0)).far = true := by
        rw [List.getD_eq_getElem?_getD, List.getElem?_eq_getElem (by simpa using h1)]
        simp only [Option.getD_some, List.getElem_set_self]
        rw [sq_far_not (by omega)]; decide
      rw [wrongs, if_neg he, ih, if_neg (Nat.lt_irrefl _), if_pos (Nat.lt_succ_self _)]; rfl
    · have he : (sq ((es.set i x).getD n 0)).far = true := by
        rw [List.getD_eq_getElem?_getD, List.getElem?_eq_getElem (by simp; omega)]
        simp only [Option.getD_some]
        rw [List.getElem_set_ne hin]
        exact sq_far.mpr (h _ (List.getElem_mem _))
      rw [wrongs, if_pos he, ih]
      by_cases hlt : i < n
      · rw [if_pos hlt, if_pos (by omega)]
      · rw [if_neg hlt, if_neg (by omega)]
end Go.Proofs.YtcphbigiooibcaaDoor
namespace Go.Proofs.YtcphbigiooibcaaDoor
open Go.RowKit Go.WideShapes Go.ChangeShapes Go.Deep
/-- A value that is a slice of strings, none of them too long. -/
def StrsV (w : World) (v : Value) : Prop := ∃ l : List ByteArray, StrSl w v l ∧ l.length ≤ 9223372036854775807 ∧ ∀ s ∈ l, s.size ≤ 140737488351232
section
variable {H : Type} {enc : TypeId × Value → H} {P : Program} {w : World} {base : Nat} {spare : Nat → Bool} {held : Bool}
theorem weightsIn {e : TypeId} : ∀ {l : List (DataW H)} {d : DataW H}, d ∈ l → ∀ n ∈ d.weights P e, n ∈ DataW.weightsAll P e l
  | [], _, hd, _, _ => absurd hd List.not_mem_nil
  | x :: l, d, hd, n, hn => by
    simp only [DataW.weightsAll, List.mem_append]
    rcases List.mem_cons.1 hd with rfl | h
    · exact .inl hn
    · exact .inr (weightsIn h n hn)
theorem open_strl {r : Reach} {b0 : Nat} {t e : TypeId} {v : Value} {d : DataW H} {ps : List MemPlace} {ts : List TypeId} {ds : List (DataW H)} {j : Nat} (ht : P.underlying t = some (.slice e)) (he : P.underlying e = some .string) (hc : P.cellsOf e = 1)
    (hv : Value.okWide P w r b0 t v) (h : DataW.Trod enc P w base spare held t v d ps) (hsz : (DataW.weightsEach P ts ds).all (· ≤ reachBytes) = true) (hj : ts[j]? = some t) (hd : ds[j]? = some d) :
    StrsV w v := by
  obtain ⟨a, len, cap, rfl⟩ := okWide_slice ht hv
  obtain ⟨fuel, hf⟩ := h
  rcases ChangeShapes.open_strings ht he hc hf with ⟨hn, -⟩ | ⟨a', len', cap', ss, hcs, hb, hl, hm, hzl, hx, hcell, hw⟩
  · simp [Value.cells] at hn; obtain ⟨rfl, rfl, rfl⟩ := hn
    exact ⟨[], ⟨none, 0, rfl, fun h => absurd h (Nat.lt_irrefl 0)⟩, by decide, fun s h => absurd h List.not_mem_nil⟩
  · simp [Value.cells] at hcs; obtain ⟨rfl, rfl, rfl⟩ := hcs
    by_cases hz : len = 0
    · subst hz
      exact ⟨[], ⟨_, _, rfl, fun h => absurd h (Nat.lt_irrefl 0)⟩, by decide, fun s h => absurd h List.not_mem_nil⟩
    have hlm : len ≤ ss.length := by rw [hzl]; split <;> omega
    have hle : (ss.take len).length = len := by rw [List.length_take]; omega
    obtain ⟨b, off, sp⟩ := a'
    obtain rfl : sp = none := spotless (b := b) (off := off) (by simpa [Addr.add] using hcell 0 (by omega))
    simp only [add_none] at hcell
    unfold maxLen at hm
    refine ⟨ss.take len, ⟨_, cap, by rw [hle], fun _ => ⟨b, off, rfl, World.block_lt_of_cell? w _ (hcell 0 (by omega)), fun i hi => ?_⟩⟩, by omega, fun s hs => ?_⟩
    · have := hcell i (by omega)
      rw [this, List.getElem_take, List.getD_eq_getElem?_getD, List.getElem?_eq_getElem (by omega)]; rfl
    · simp only [Prod.mk.injEq] at hx
      obtain ⟨rfl, -⟩ := hx
      have hmem : (DataW.lit (.string s.data.toList) : DataW H) ∈ strs (ss.take len) := List.mem_map.mpr ⟨s, hs, rfl⟩
      have := List.all_eq_true.1 hsz _ (DataW.weights_mem_each hj hd s.data.toList.length (by
        simp only [DataW.weights, ht, List.mem_cons, List.mem_append]
        exact .inr (.inl (weightsIn hmem _ (by simp [DataW.weights])))))
      have h9 : s.data.toList.length ≤ reachBytes := of_decide_eq_true this
      simpa [reachBytes] using h9
end
end Go.Proofs.YtcphbigiooibcaaDoor
namespace Go.Proofs.YtcphbigiooibcaaDoor
open Go.RowKit
set_option maxRecDepth 100000
set_option linter.unusedVariables false
set_option linter.unusedSimpArgs false
theorem sq_41 : Hid (sq (4 * 1) = (⟨1189, 3667, false⟩ : Sp)) := Lib.hid sq_4
theorem list1 {l : List Int} (n : Int) (h : l = [n]) {w : World} {v : Value} (hi : IntSl w v l) : ∃ b off cap, v = .slice (some ⟨b, off, none⟩) 1 cap ∧ w.cell? ⟨b, off, none⟩ = some (.int .i64 n) ∧ b < w.heap.size := by
  subst h
  obtain ⟨a, cap, rfl, h'⟩ := hi
  obtain ⟨b, off, rfl, h''⟩ := h' (by simp)
  exact ⟨b, off, cap, rfl, h''.c 0 (by simp), h''.lt⟩
theorem nilSp (w : World) : SpSl w (.slice none 0 0) (([] : List It).map (·.key)) := ⟨none, 0, rfl, fun h => absurd h (by decide)⟩
theorem nilStr (w : World) : StrSl w (.slice none 0 0) (([] : List It).map (·.t)) := ⟨none, 0, rfl, fun h => absurd h (by decide)⟩
theorem nilSl (w : World) : SlSl w (.slice none 0 0) (([] : List It).map fun x => (x.R, x.S)) := ⟨none, 0, rfl, fun h => absurd h (by decide)⟩
theorem nilInt (w : World) : IntSl w (.slice none 0 0) [] := ⟨none, 0, rfl, fun h => absurd h (by decide)⟩
theorem none_far (w : World) (hF : FarAt w) : Calls Tryd.prog 21 #[.slice none 0 0, .slice none 0 0, .slice none 0 0, .slice none 0 0] w fun e w' => e = .returned (.tuple #[.bool true, .nilIface]) ∧ Below w.heap.size w w' :=
  bverify_e [] [] _ _ _ _ true w hF (by decide) rfl (fun _ h => absurd h (Nat.not_lt_zero _)) (fun _ h => absurd h (Nat.not_lt_zero _)) (nilSp w) (nilStr w) (nilSl w) (nilInt w) (Lib.hid (by rw [show (([] : List It).map (·.e)) = [] from rfl, dot_nil, sq_zero]; rfl))
/-- The one wrong seal of the law's beginning. -/
theorem one_wrong (S1 e1 : Int) (W0 : World) (n : Nat) (hn : Hid (n = W0.heap.size)) (h : Hid (It.ok ⟨⟨1189, 3667, false⟩, ⟨#[97]⟩, ⟨1189, 3667, false⟩, S1, e1⟩)) (hw : Hid (wrongs [e1] 1 = [0])) (hF : FarAt W0) :
    Calls Tryd.prog 23 #[.slice (some ⟨n, 0, none⟩) 1 1, .slice (some ⟨n + 1, 0, none⟩) 1 1, .slice (some ⟨n + 1 + 1, 0, none⟩) 1 1]
      (((W0.alloc (.cells #[.int .i64 1189, .int .i64 3667, .bool false] 23)).alloc (.cells #[.string ⟨#[97]⟩] 9)).alloc (.cells #[.int .i64 1189, .int .i64 3667, .bool false, .int .i64 S1] 25))
      fun e w' => ∃ b off cap, e = .returned (.tuple #[.slice (some ⟨b, off, none⟩) 1 cap, .nilIface]) ∧ Below (((W0.alloc (.cells #[.int .i64 1189, .int .i64 3667, .bool false] 23)).alloc (.cells #[.string ⟨#[97]⟩] 9)).alloc (.cells #[.int .i64 1189, .int .i64 3667, .bool false, .int .i64 S1] 25)).heap.size (((W0.alloc (.cells #[.int .i64 1189, .int .i64 3667, .bool false] 23)).alloc (.cells #[.string ⟨#[97]⟩] 9)).alloc (.cells #[.int .i64 1189, .int .i64 3667, .bool false, .int .i64 S1] 25)) w' := by
  have i1 := ((SpSl.made W0 [⟨1189, 3667, false⟩] n 1 1 #[.int .i64 1189, .int .i64 3667, .bool false] 23 hn.out rfl rfl).below (below_alloc _ (.cells #[.string ⟨#[97]⟩] 9))).below (below_alloc _ (.cells #[.int .i64 1189, .int .i64 3667, .bool false, .int .i64 S1] 25))
  have i2 := (StrSl.made (W0.alloc (.cells #[.int .i64 1189, .int .i64 3667, .bool false] 23)) [⟨#[97]⟩] (n + 1) 1 1 #[.string ⟨#[97]⟩] 9 (by rw [hn.out]; simp) rfl rfl).below (below_alloc _ (.cells #[.int .i64 1189, .int .i64 3667, .bool false, .int .i64 S1] 25))
  have i3 := SlSl.made ((W0.alloc (.cells #[.int .i64 1189, .int .i64 3667, .bool false] 23)).alloc (.cells #[.string ⟨#[97]⟩] 9)) [(⟨1189, 3667, false⟩, S1)] (n + 1 + 1) 1 1 #[.int .i64 1189, .int .i64 3667, .bool false, .int .i64 S1] 25 (by rw [hn.out]; simp) rfl rfl
  refine (bwrong_e [⟨⟨1189, 3667, false⟩, ⟨#[97]⟩, ⟨1189, 3667, false⟩, S1, e1⟩] _ _ _ _ (((hF.below (below_alloc _ _)).below (below_alloc _ _)).below (below_alloc _ _)) (by simp) ?_ i1 i2 i3).mono ?_
  · intro i hi
    have hi0 : i = 0 := by simpa using hi
    subst hi0
    exact h.out
  · rintro e w' ⟨v', rfl, hi, hb⟩
    obtain ⟨b, off, cap, rfl, -, -⟩ := list1 0 hw.out hi
    exact ⟨b, off, cap, rfl, hb⟩
set_option maxHeartbeats 8000000 in
theorem bh_len (xs ks : List Int) (ts : List ByteArray) (ws : List Int) (a1 a2 a3 a4 : Option Addr) (k1 k2 k3 k4 : Nat) (at' more C0 S0 S1 e1 : Int) (w : World) (hF : FarAt w)
    (hC0 : Hid (askN ⟨1189, 3667, false⟩ ⟨1189, 3667, false⟩ (⟨#[97]⟩ : ByteArray).data.toList = C0)) (hS0 : Hid ((1 + C0 * 1) % 1013 = S0)) (s0 : 0 ≤ S0) (s1 : S0 < 1013) (g1 : IntKind.i64.wrap (S0 + 1) = S0 + 1) (g2 : (S0 + 1).tmod 1013 = S1)
    (hI : Hid (It.ok ⟨⟨1189, 3667, false⟩, ⟨#[97]⟩, ⟨1189, 3667, false⟩, S1, e1⟩)) (hw : Hid (wrongs [e1] 1 = [0]))
    (m1 : xs.length ≤ 9223372036854775807) (m2 : ks.length ≤ 9223372036854775807) (m3 : ts.length ≤ 9223372036854775807) (m4 : ws.length ≤ 9223372036854775807)
    (h : ¬ (ks.length = xs.length ∧ ts.length = xs.length ∧ ws.length = xs.length ∧ xs.length ≤ 12)) :
    Calls Tryd.prog 5 #[.slice a1 xs.length k1, .slice a2 ks.length k2, .slice a3 ts.length k3, .slice a4 ws.length k4, .int .i64 at', .int .i64 more] w fun e w' => e = .returned (.bool true) ∧ Below w.heap.size w w' := by
  have h' := Lib.hid h
  clear h
  generalize xs.length = n1 at *
  generalize ks.length = n2 at *
  generalize ts.length = n3 at *
  generalize ws.length = n4 at *
  go_enter Tryd.func5, Tryd.ntmps5
  go_wp2_with fail
  refine (none_far _ (hF.below (by repeat (first | exact Below.refl _ _ | refine balloc ?_ _ | refine Below.drew ?_ | refine below_drewN ?_ _ | refine below_set ?_ (by first | omega | (dsimp only; omega)) _)))).mono ?_; rintro e w1 ⟨rfl, hb⟩
  obtain ⟨hc1, hf1⟩ := bcell hb
  have z1 := hb.size
  try simp only [World.size_alloc, World.size_setCell, World.size_drew] at z1
  have hB1 : Below w.heap.size w w1 := below_seq (by repeat (first | exact Below.refl _ _ | refine balloc ?_ _ | refine Below.drew ?_ | refine below_drewN ?_ _ | refine below_set ?_ (by first | omega | (dsimp only; omega)) _)) hb
  clear hb
  go_wp2_with fail
  refine (key_one _ (hF.below (by repeat (first | exact hB1 | exact Below.refl _ _ | refine balloc ?_ _ | refine Below.drew ?_ | refine below_drewN ?_ _ | refine below_set ?_ (by first | omega | (dsimp only; omega)) _)))).mono ?_; rintro e w2 ⟨rfl, hb⟩
  obtain ⟨hc2, hf2⟩ := bcell hb
  have z2 := hb.size
  try simp only [World.size_alloc, World.size_setCell, World.size_drew] at z2
  have hB2 : Below w.heap.size w w2 := below_seq (by repeat (first | exact hB1 | exact Below.refl _ _ | refine balloc ?_ _ | refine Below.drew ?_ | refine below_drewN ?_ _ | refine below_set ?_ (by first | omega | (dsimp only; omega)) _)) hb
  clear hb
  go_wp2_with fail
  refine (sign_e 1 1 ⟨#[97]⟩ ⟨1189, 3667, false⟩ ⟨1189, 3667, false⟩ C0 S0 _ (hF.below (by repeat (first | exact hB2 | exact Below.refl _ _ | refine balloc ?_ _ | refine Below.drew ?_ | refine below_drewN ?_ _ | refine below_set ?_ (by first | omega | (dsimp only; omega)) _))) (by omega) (by omega) (by omega) (by omega) (by decide) sq_41 sq_41 hC0 hS0).mono ?_; rintro e w3 ⟨rfl, hb⟩
  obtain ⟨hc3, hf3⟩ := bcell hb
  have z3 := hb.size
  try simp only [World.size_alloc, World.size_setCell, World.size_drew] at z3
  have s3_0 : w2.heap.size < w3.heap.size := by omega
  have hB3 : Below w.heap.size w w3 := below_seq (by repeat (first | exact hB2 | exact Below.refl _ _ | refine balloc ?_ _ | refine Below.drew ?_ | refine below_drewN ?_ _ | refine below_set ?_ (by first | omega | (dsimp only; omega)) _)) hb
  clear hb
  go_wp2_with fail
  refine (one_wrong S1 e1 _ (w3.heap.size + 1) (Lib.hid (by simp)) hI hw (hF.below (balloc hB3 _))).mono ?_; rintro e w4 ⟨b, off, cap, rfl, hb⟩
  obtain ⟨hc4, hf4⟩ := bcell hb
  have z4 := hb.size
  try simp only [World.size_alloc, World.size_setCell, World.size_drew] at z4
  have s4_0 : w2.heap.size < w4.heap.size := by omega
  have s4_1 : w3.heap.size < w4.heap.size := by omega
  have hB4 : Below w.heap.size w w4 := below_seq (by repeat (first | exact hB3 | exact Below.refl _ _ | refine balloc ?_ _ | refine Below.drew ?_ | refine below_drewN ?_ _ | refine below_set ?_ (by first | omega | (dsimp only; omega)) _)) hb
  clear hb
  by_cases q2 : n2 = n1
  · subst q2
    by_cases q3 : n3 = n2
    · subst q3
      by_cases q4 : n4 = n3
      · subst q4
        have q5 : decide ((12 : Int) < (n4 : Int)) = true := by rw [decide_eq_true_eq]; have := h'.out; omega
        go_wp2
        go_ret
        exact ⟨rfl, (by repeat (first | exact hB4 | exact Below.refl _ _ | refine balloc ?_ _ | refine Below.drew ?_ | refine below_drewN ?_ _ | refine below_set ?_ (by first | omega | (dsimp only; omega)) _))⟩
      · have q5 : ((n4 : Int) != (n3 : Int)) = true := by rw [bne_iff_ne]; omega
        go_wp2
        go_ret
        exact ⟨rfl, (by repeat (first | exact hB4 | exact Below.refl _ _ | refine balloc ?_ _ | refine Below.drew ?_ | refine below_drewN ?_ _ | refine below_set ?_ (by first | omega | (dsimp only; omega)) _))⟩
    · have q5 : ((n3 : Int) != (n2 : Int)) = true := by rw [bne_iff_ne]; omega
      go_wp2
      go_ret
      exact ⟨rfl, (by repeat (first | exact hB4 | exact Below.refl _ _ | refine balloc ?_ _ | refine Below.drew ?_ | refine below_drewN ?_ _ | refine below_set ?_ (by first | omega | (dsimp only; omega)) _))⟩
  · have q5 : ((n2 : Int) != (n1 : Int)) = true := by rw [bne_iff_ne]; omega
    go_wp2
    go_ret
    exact ⟨rfl, (by repeat (first | exact hB4 | exact Below.refl _ _ | refine balloc ?_ _ | refine Below.drew ?_ | refine below_drewN ?_ _ | refine below_set ?_ (by first | omega | (dsimp only; omega)) _))⟩
/-- What is asked of the numbers at a place. -/
def okAt (xs ks ws : List Int) (ts : List ByteArray) (j : Nat) : Prop := (1 ≤ xs.getD j 0 ∧ xs.getD j 0 < 1013) ∧ (1 ≤ ks.getD j 0 ∧ ks.getD j 0 < 1013) ∧ (ts.getD j ⟨#[]⟩).size ≤ 60 ∧ (1 ≤ ws.getD j 0 ∧ ws.getD j 0 < 1013)
theorem getD_int {l : List Int} {j : Nat} (h : j < l.length) : l.getD j 0 = l[j] := by rw [List.getD_eq_getElem?_getD, List.getElem?_eq_getElem h]; rfl
theorem getD_str {l : List ByteArray} {j : Nat} (h : j < l.length) : l.getD j ⟨#[]⟩ = l[j] := by rw [List.getD_eq_getElem?_getD, List.getElem?_eq_getElem h]; rfl
/-- The key of whatever number. -/
theorem key_any (x : Int) : ∃ (K : Sp) (ek : Value), (∀ W : World, FarAt W → Calls Tryd.prog 16 #[.int .i64 x] W fun e w' => e = .returned (.tuple #[spV K, ek]) ∧ Below W.heap.size W w') ∧
    ((ek = .nilIface ∧ K = sq (4 * x) ∧ 1 ≤ x ∧ x < 1013) ∨ (∃ E : Int, ek = .iface 113 (.int .i64 E) ∧ ¬ (1 ≤ x ∧ x < 1013))) := by
  by_cases h : 1 ≤ x ∧ x < 1013
  · exact ⟨_, _, fun W hF => key_e x _ W hF h.1 h.2 rfl, .inl ⟨rfl, rfl, h.1, h.2⟩⟩
  · exact ⟨_, _, fun W _ => key_n x W h, .inr ⟨_, rfl, h⟩⟩
/-- The seal of whatever text by whatever numbers. -/
theorem sign_any (x k : Int) (t : ByteArray) (hz : t.size ≤ 140737488351232) : ∃ (R : Sp) (S : Int) (es : Value), (∀ W : World, FarAt W → Calls Tryd.prog 22 #[.int .i64 x, .int .i64 k, .string t] W fun e w' => e = .returned (.tuple #[slV R S, es]) ∧ Below W.heap.size W w') ∧
    ((es = .nilIface ∧ R = (mkIt x k t).R ∧ S = (mkIt x k t).S ∧ 1 ≤ x ∧ x < 1013 ∧ 1 ≤ k ∧ k < 1013 ∧ t.size ≤ 60) ∨ (∃ E : Int, es = .iface 113 (.int .i64 E) ∧ ¬ (1 ≤ x ∧ x < 1013 ∧ 1 ≤ k ∧ k < 1013 ∧ t.size ≤ 60))) := by
  by_cases h : 1 ≤ x ∧ x < 1013 ∧ 1 ≤ k ∧ k < 1013 ∧ t.size ≤ 60
  · obtain ⟨x1, x2, k1, k2, hz6⟩ := h
    exact ⟨_, _, _, fun W hF => sign_e x k t _ _ _ _ W hF x1 x2 k1 k2 hz6 rfl rfl rfl rfl, .inl ⟨rfl, rfl, rfl, x1, x2, k1, k2, hz6⟩⟩
  · obtain ⟨E, hE⟩ := sign_n x k t hz h
    exact ⟨_, _, _, fun W _ => hE W, .inr ⟨E, rfl, h⟩⟩
abbrev S3 (W : World) (b1 o1 b2 o2 b3 o3 : Nat) (x k : Int) (t : ByteArray) (w' : World) : Prop := w'.cell? ⟨b1, o1, none⟩ = some (.int .i64 x) ∧ w'.cell? ⟨b2, o2, none⟩ = some (.int .i64 k) ∧ w'.cell? ⟨b3, o3, none⟩ = some (.string t) ∧ b1 < W.heap.size ∧ b2 < W.heap.size ∧ b3 < W.heap.size ∧ Below W.heap.size W w'
section
variable {W w w' : World} {b1 o1 b2 o2 b3 o3 : Nat} {x k : Int} {t : ByteArray}
theorem S3.goes (h : S3 W b1 o1 b2 o2 b3 o3 x k t w) (hb : Below w.heap.size w w') : S3 W b1 o1 b2 o2 b3 o3 x k t w' :=
  have hs := h.2.2.2.2.2.2.size
  have e1 : b1 < w.heap.size := Nat.lt_of_lt_of_le h.2.2.2.1 hs
  have e2 : b2 < w.heap.size := Nat.lt_of_lt_of_le h.2.2.2.2.1 hs
  have e3 : b3 < w.heap.size := Nat.lt_of_lt_of_le h.2.2.2.2.2.1 hs
  ⟨((bcell hb).1 _ _ e1).trans h.1, ((bcell hb).1 _ _ e2).trans h.2.1, ((bcell hb).1 _ _ e3).trans h.2.2.1, h.2.2.2.1, h.2.2.2.2.1, h.2.2.2.2.2.1, below_seq h.2.2.2.2.2.2 hb⟩
theorem S3.drew (h : S3 W b1 o1 b2 o2 b3 o3 x k t w) : S3 W b1 o1 b2 o2 b3 o3 x k t w.drew := h.goes (Below.refl _ _).drew
theorem S3.alloc (h : S3 W b1 o1 b2 o2 b3 o3 x k t w) (q : Obj) : S3 W b1 o1 b2 o2 b3 o3 x k t (w.alloc q) := h.goes (below_alloc _ _)
end
section
variable {xs ks ws : List Int} {ts : List ByteArray}
theorem its_okL (e2 : ks.length = xs.length) (e3 : ts.length = xs.length) (hok : ∀ j, j < xs.length → okAt xs ks ws ts j) (i : Nat) (h : i < (its xs ks ts).length) : It.ok (its xs ks ts)[i] := by
  have hl := its_len xs ks ts e2 e3
  have hi : i < xs.length := by omega
  rw [its_get xs ks ts i hi (by omega) (by omega) h]
  have := (hok i hi).2.2.1
  rw [getD_str (by omega)] at this
  exact mkIt_ok _ _ _ this
theorem ws_ok (e4 : ws.length = xs.length) (hok : ∀ j, j < xs.length → okAt xs ks ws ts j) (i : Nat) (h : i < ws.length) : 1 ≤ ws[i] ∧ ws[i] < 1013 := by
  have := (hok i (by omega)).2.2.2
  rw [getD_int h] at this
  exact this
theorem all_right (e2 : ks.length = xs.length) (e3 : ts.length = xs.length) (e4 : ws.length = xs.length) (e5 : xs.length ≤ 12) (hok : ∀ j, j < xs.length → okAt xs ks ws ts j) (u v3 v v4 : Value) (W : World) (hF : FarAt W) (h1 : SpSl W u ((its xs ks ts).map (·.key))) (h2 : StrSl W v3 ts) (h3 : SlSl W v ((its xs ks ts).map fun x => (x.R, x.S))) (h4 : IntSl W v4 ws) :
    Calls Tryd.prog 21 #[u, v3, v, v4] W fun e w' => e = .returned (.tuple #[.bool true, .nilIface]) ∧ Below W.heap.size W w' := by
  have hl := its_len xs ks ts e2 e3
  exact bverify_e (its xs ks ts) ws u v3 v v4 true W hF (by omega) (by omega) (its_okL e2 e3 hok) (ws_ok e4 hok) h1 (by rw [its_t xs ks ts e2 e3]; exact h2) h3 h4 (Lib.hid (dot_far (its_e xs ks ts)))
theorem none_wrong (e2 : ks.length = xs.length) (e3 : ts.length = xs.length) (e5 : xs.length ≤ 12) (hok : ∀ j, j < xs.length → okAt xs ks ws ts j) (u v3 v : Value) (W : World) (hF : FarAt W) (h1 : SpSl W u ((its xs ks ts).map (·.key))) (h2 : StrSl W v3 ts) (h3 : SlSl W v ((its xs ks ts).map fun x => (x.R, x.S))) :
    Calls Tryd.prog 23 #[u, v3, v] W fun e w' => ∃ a cap, e = .returned (.tuple #[.slice a 0 cap, .nilIface]) ∧ Below W.heap.size W w' := by
  have hl := its_len xs ks ts e2 e3
  refine (bwrong_e (its xs ks ts) u v3 v W hF (by omega) (its_okL e2 e3 hok) h1 (by rw [its_t xs ks ts e2 e3]; exact h2) h3).mono ?_
  rintro e w' ⟨v', rfl, hi, hb⟩
  rw [wrongs_none _ (its_e xs ks ts) _ (by simp)] at hi
  obtain ⟨a, cap, rfl, -⟩ := hi
  exact ⟨a, cap, rfl, hb⟩
/-- The seals, one of them with another number. -/
theorem set_maps (L : List It) (j : Nat) (h : j < L.length) (m : Int) : (L.set j (L[j].add m)).map (·.key) = L.map (·.key) ∧ (L.set j (L[j].add m)).map (·.t) = L.map (·.t) ∧ (L.set j (L[j].add m)).map (fun x => (x.R, x.S)) = (L.map fun x => (x.R, x.S)).set j (L[j].R, (L[j].S + m) % 1013) ∧ (L.set j (L[j].add m)).map (·.e) = (L.map (·.e)).set j (L[j].add m).e := by
  refine ⟨?_, ?_, ?_, ?_⟩
  · rw [List.map_set]; apply List.ext_getElem (by simp); intro i h1 h2; by_cases hij : j = i
    · subst hij; simp [It.add]
    · rw [List.getElem_set_ne hij]
  · rw [List.map_set]; apply List.ext_getElem (by simp); intro i h1 h2; by_cases hij : j = i
    · subst hij; simp [It.add]
    · rw [List.getElem_set_ne hij]
  · rw [List.map_set]; rfl
  · rw [List.map_set]
theorem set_okL {L : List It} (hok : ∀ i (h : i < L.length), It.ok L[i]) (j : Nat) (h : j < L.length) (m : Int) (i : Nat) (hi : i < (L.set j (L[j].add m)).length) : It.ok (L.set j (L[j].add m))[i] := by
  by_cases hij : j = i
  · subst hij; rw [List.getElem_set_self]; exact It.plus_ok (hok j h) m
  · rw [List.getElem_set_ne hij]; exact hok i (by simpa using hi)
theorem one_bad (e2 : ks.length = xs.length) (e3 : ts.length = xs.length) (e4 : ws.length = xs.length) (e5 : xs.length ≤ 12) (hok : ∀ j, j < xs.length → okAt xs ks ws ts j) (j : Nat) (hj : j < (its xs ks ts).length) (m : Int) (m0 : 1 ≤ m) (m1 : m < 1013) (u v3 v v4 : Value) (W : World) (hF : FarAt W) (h1 : SpSl W u ((its xs ks ts).map (·.key))) (h2 : StrSl W v3 ts)
    (h3 : SlSl W v (((its xs ks ts).map fun x => (x.R, x.S)).set j ((its xs ks ts)[j].R, ((its xs ks ts)[j].S + m) % 1013))) (h4 : IntSl W v4 ws) :
    Calls Tryd.prog 21 #[u, v3, v, v4] W fun e w' => e = .returned (.tuple #[.bool false, .nilIface]) ∧ Below W.heap.size W w' := by
  have hl := its_len xs ks ts e2 e3
  obtain ⟨k1, k2, k3, k4⟩ := set_maps (its xs ks ts) j hj m
  have hwj := ws_ok e4 hok j (by omega)
  refine bverify_e ((its xs ks ts).set j ((its xs ks ts)[j].add m)) ws u v3 v v4 false W hF (by rw [List.length_set]; omega) (by rw [List.length_set]; omega) (set_okL (its_okL e2 e3 hok) j hj m) (ws_ok e4 hok) (by rw [k1]; exact h1) (by rw [k2, its_t xs ks ts e2 e3]; exact h2) (by rw [k3]; exact h3) h4 (Lib.hid ?_)
  rw [k4]
  exact dot_not (its_e xs ks ts) j (by simpa using hj) (by omega) (It.plus_e (its_e xs ks ts _ (List.mem_map_of_mem (List.getElem_mem hj))) m) m0 m1 hwj.1 hwj.2
theorem one_told (e2 : ks.length = xs.length) (e3 : ts.length = xs.length) (e5 : xs.length ≤ 12) (hok : ∀ j, j < xs.length → okAt xs ks ws ts j) (j : Nat) (hj : j < (its xs ks ts).length) (m : Int) (m0 : 1 ≤ m) (m1 : m < 1013) (u v3 v : Value) (W : World) (hF : FarAt W) (h1 : SpSl W u ((its xs ks ts).map (·.key))) (h2 : StrSl W v3 ts)
    (h3 : SlSl W v (((its xs ks ts).map fun x => (x.R, x.S)).set j ((its xs ks ts)[j].R, ((its xs ks ts)[j].S + m) % 1013))) :
    Calls Tryd.prog 23 #[u, v3, v] W fun e w' => ∃ b off cap, e = .returned (.tuple #[.slice (some ⟨b, off, none⟩) 1 cap, .nilIface]) ∧ w'.cell? ⟨b, off, none⟩ = some (.int .i64 j) ∧ b < w'.heap.size ∧ Below W.heap.size W w' := by
  have hl := its_len xs ks ts e2 e3
  obtain ⟨k1, k2, k3, k4⟩ := set_maps (its xs ks ts) j hj m
  refine (bwrong_e ((its xs ks ts).set j ((its xs ks ts)[j].add m)) u v3 v W hF (by rw [List.length_set]; omega) (set_okL (its_okL e2 e3 hok) j hj m) (by rw [k1]; exact h1) (by rw [k2, its_t xs ks ts e2 e3]; exact h2) (by rw [k3]; exact h3)).mono ?_
  rintro e w' ⟨v', rfl, hi, hb⟩
  rw [k4, List.length_set, wrongs_one _ (its_e xs ks ts) j (by simpa using hj) (It.plus_e (its_e xs ks ts _ (List.mem_map_of_mem (List.getElem_mem hj))) m) m0 m1 _ (by simp), if_pos hj] at hi
  obtain ⟨b, off, cap, rfl, hc, hl'⟩ := list1 (j : Int) rfl hi
  exact ⟨b, off, cap, rfl, hc, hl', hb⟩
end
/-- A row of seals that a call owns. -/
theorem own_seals_at {w : World} {B e : Nat} {v : Value} {l : List (Sp × Int)} {n : Nat} (h : w.ownsRow B e 4 v n (slCells l)) (hn : n = l.length) (h0 : 0 < n) : ∃ b off cap, v = .slice (some ⟨b, off, none⟩) n cap ∧ SlsAt w b off l ∧ B ≤ b ∧ ∀ o, w.frozen? ⟨b, o, none⟩ = false := by
  obtain ⟨g, cap, rfl, hg, hlt⟩ := h.form h0
  obtain ⟨a, cap', e, hs⟩ := own_seals h hn
  cases e
  obtain ⟨b, off, e, hs⟩ := hs (by omega)
  cases e
  exact ⟨_, _, cap, rfl, hs, hg, fun o => h.frozenAt o⟩
theorem SlsAt.put {w : World} {b off : Nat} {l : List (Sp × Int)} (h : SlsAt w b off l) (j : Nat) (hj : j < l.length) (n : Int) : SlsAt (w.setCell ⟨b, off + j * 4 + 3, none⟩ (.int .i64 n)) b off (l.set j (l[j].1, n)) := by
  have ho : ∀ k, k ≠ off + j * 4 + 3 → (w.setCell ⟨b, off + j * 4 + 3, none⟩ (.int .i64 n)).cell? ⟨b, k, none⟩ = w.cell? ⟨b, k, none⟩ := fun k hk => by rw [World.cell?_setCell_other (h := fun e => hk (congrArg Addr.off e).symm)]
  have hs : (w.setCell ⟨b, off + j * 4 + 3, none⟩ (.int .i64 n)).cell? ⟨b, off + j * 4 + 3, none⟩ = some (.int .i64 n) := World.cell?_setCell_same _ _ _ (h.cs j hj)
  have hp : ∀ i (hi : i < (l.set j (l[j].1, n)).length), (l.set j (l[j].1, n))[i].1 = (l[i]'(by simpa using hi)).1 := fun i hi => by
    by_cases hij : j = i
    · subst hij; rw [List.getElem_set_self]
    · rw [List.getElem_set_ne hij]
  refine ⟨by simpa [World.setCell] using h.lt, fun i hi => ?_, fun i hi => ?_, fun i hi => ?_, fun i hi => ?_⟩
  · rw [hp i hi, ho _ (by omega)]; exact h.cx i (by simpa using hi)
  · rw [hp i hi, ho _ (by omega)]; exact h.cy i (by simpa using hi)
  · rw [hp i hi, ho _ (by omega)]; exact h.cf i (by simpa using hi)
  · by_cases hij : j = i
    · subst hij; rw [List.getElem_set_self]; exact hs
    · rw [List.getElem_set_ne hij, ho _ (by omega)]; exact h.cs i (by simpa using hi)
theorem SpSl.other {w : World} {v : Value} {l : List Sp} (h : SpSl w v l) {c o : Nat} (x : Value) (hne : v.ownBlock ≠ some c) : SpSl (w.setCell ⟨c, o, none⟩ x) v l := by
  obtain ⟨a, cap, rfl, h⟩ := h
  refine ⟨a, cap, rfl, fun h0 => ?_⟩
  obtain ⟨b, off, rfl, hs⟩ := h h0
  have hb : ∀ k, (w.setCell ⟨c, o, none⟩ x).cell? ⟨b, k, none⟩ = w.cell? ⟨b, k, none⟩ := fun k => by rw [World.cell?_setCell_other (h := fun e => hne (by have := congrArg Addr.block e; simp only at this; first | exact congrArg some this | exact congrArg some this.symm))]
  exact ⟨b, off, rfl, by simpa [World.setCell] using hs.lt, fun i hi => (hb _).trans (hs.cx i hi), fun i hi => (hb _).trans (hs.cy i hi), fun i hi => (hb _).trans (hs.cf i hi)⟩
theorem gr1 {w w' : World} {t : TypeId} (h : Below ((w.alloc (.cells #[.int .i64 0, .int .i64 0, .bool false, .int .i64 0] t)).drew).heap.size ((w.alloc (.cells #[.int .i64 0, .int .i64 0, .bool false, .int .i64 0] t)).drew) w') : SlAt w' w.heap.size ⟨0, 0, false⟩ 0 := (SlAt.drew (SlAt.fresh w ⟨0, 0, false⟩ 0 t)).below h
theorem gs1 {w w' : World} {t : TypeId} (h : Below (w.alloc (.cells #[.int .i64 0, .int .i64 0, .bool false, .int .i64 0] t)).heap.size (w.alloc (.cells #[.int .i64 0, .int .i64 0, .bool false, .int .i64 0] t)) w') : SlAt w' w.heap.size ⟨0, 0, false⟩ 0 := (SlAt.fresh w ⟨0, 0, false⟩ 0 t).below h
set_option maxHeartbeats 16000000 in
theorem bh_run (xs ks : List Int) (ts : List ByteArray) (ws : List Int) (v1 v2 v3 v4 : Value) (at' more C0 S0 S1 e1 : Int) (w : World) (hF : FarAt w)
    (hC0 : Hid (askN ⟨1189, 3667, false⟩ ⟨1189, 3667, false⟩ (⟨#[97]⟩ : ByteArray).data.toList = C0)) (hS0 : Hid ((1 + C0 * 1) % 1013 = S0)) (s0 : 0 ≤ S0) (s1 : S0 < 1013) (g1 : IntKind.i64.wrap (S0 + 1) = S0 + 1) (g2 : (S0 + 1).tmod 1013 = S1)
    (hI : Hid (It.ok ⟨⟨1189, 3667, false⟩, ⟨#[97]⟩, ⟨1189, 3667, false⟩, S1, e1⟩)) (hw : Hid (wrongs [e1] 1 = [0]))
    (l1 : IntSl w v1 xs) (l2 : IntSl w v2 ks) (l3 : StrSl w v3 ts) (l4 : IntSl w v4 ws) (hz : ∀ t ∈ ts, t.size ≤ 140737488351232)
    (e2 : ks.length = xs.length) (e3 : ts.length = xs.length) (e4 : ws.length = xs.length) (e5 : xs.length ≤ 12) (n0 : -9223372036854775808 ≤ more) (n1 : more ≤ 9223372036854775807) :
    Calls Tryd.prog 5 #[v1, v2, v3, v4, .int .i64 at', .int .i64 more] w fun e w' => e = .returned (.bool true) ∧ Below w.heap.size w w' := by
  obtain ⟨a1, k1, rfl, l1⟩ := l1
  obtain ⟨a2, k2, rfl, l2⟩ := l2
  obtain ⟨a3, k3, rfl, l3⟩ := l3
  obtain ⟨a4, k4, rfl, l4⟩ := l4
  rw [e2, e3, e4]
  have l1 := Lib.hid l1
  have l2 := Lib.hid l2
  have l3 := Lib.hid l3
  have l4 := Lib.hid l4
  replace hz := Lib.hid hz
  have e2 := Lib.hid e2
  have e3 := Lib.hid e3
  have e4 := Lib.hid e4
  have q5 : decide ((12 : Int) < (xs.length : Int)) = false := by rw [decide_eq_false_iff_not]; omega
  have hF' := Lib.hid hF
  go_enter Tryd.func5, Tryd.ntmps5
  go_wp2_with fail
  refine (none_far _ (hF.below (by repeat (first | exact Below.refl _ _ | refine balloc ?_ _ | refine Below.drew ?_ | refine below_drewN ?_ _ | refine below_set ?_ (by first | omega | (dsimp only; omega)) _)))).mono ?_; rintro e w1 ⟨rfl, hb⟩
  obtain ⟨hc1, hf1⟩ := bcell hb
  have z1 := hb.size
  try simp only [World.size_alloc, World.size_setCell, World.size_drew] at z1
  have hB1 : Below w.heap.size w w1 := below_seq (by repeat (first | exact Below.refl _ _ | refine balloc ?_ _ | refine Below.drew ?_ | refine below_drewN ?_ _ | refine below_set ?_ (by first | omega | (dsimp only; omega)) _)) hb
  clear hb
  go_wp2_with fail
  refine (key_one _ (hF.below (by repeat (first | exact hB1 | exact Below.refl _ _ | refine balloc ?_ _ | refine Below.drew ?_ | refine below_drewN ?_ _ | refine below_set ?_ (by first | omega | (dsimp only; omega)) _)))).mono ?_; rintro e w2 ⟨rfl, hb⟩
  obtain ⟨hc2, hf2⟩ := bcell hb
  have z2 := hb.size
  try simp only [World.size_alloc, World.size_setCell, World.size_drew] at z2
  have hB2 : Below w.heap.size w w2 := below_seq (by repeat (first | exact hB1 | exact Below.refl _ _ | refine balloc ?_ _ | refine Below.drew ?_ | refine below_drewN ?_ _ | refine below_set ?_ (by first | omega | (dsimp only; omega)) _)) hb
  clear hb
  go_wp2_with fail
  refine (sign_e 1 1 ⟨#[97]⟩ ⟨1189, 3667, false⟩ ⟨1189, 3667, false⟩ C0 S0 _ (hF.below (by repeat (first | exact hB2 | exact Below.refl _ _ | refine balloc ?_ _ | refine Below.drew ?_ | refine below_drewN ?_ _ | refine below_set ?_ (by first | omega | (dsimp only; omega)) _))) (by omega) (by omega) (by omega) (by omega) (by decide) sq_41 sq_41 hC0 hS0).mono ?_; rintro e w3 ⟨rfl, hb⟩
  obtain ⟨hc3, hf3⟩ := bcell hb
  have z3 := hb.size
  try simp only [World.size_alloc, World.size_setCell, World.size_drew] at z3
  have s3_0 : w2.heap.size < w3.heap.size := by omega
  have hB3 : Below w.heap.size w w3 := below_seq (by repeat (first | exact hB2 | exact Below.refl _ _ | refine balloc ?_ _ | refine Below.drew ?_ | refine below_drewN ?_ _ | refine below_set ?_ (by first | omega | (dsimp only; omega)) _)) hb
  clear hb
  go_wp2_with fail
  refine (one_wrong S1 e1 _ (w3.heap.size + 1) (Lib.hid (by simp)) hI hw (hF.below (balloc hB3 _))).mono ?_; rintro e w4 ⟨b, off, cap, rfl, hb⟩
  obtain ⟨hc4, hf4⟩ := bcell hb
  have z4 := hb.size
  try simp only [World.size_alloc, World.size_setCell, World.size_drew] at z4
  have s4_0 : w2.heap.size < w4.heap.size := by omega
  have s4_1 : w3.heap.size < w4.heap.size := by omega
  have hB4 : Below w.heap.size w w4 := below_seq (by repeat (first | exact hB3 | exact Below.refl _ _ | refine balloc ?_ _ | refine Below.drew ?_ | refine below_drewN ?_ _ | refine below_set ?_ (by first | omega | (dsimp only; omega)) _)) hb
  clear hb
  clear hc1 hf1 hc2 hf2 hc3 hf3 hc4 hf4 hB1 hB2 hB3 z1 z2 z3 g1 g2
  have hB4' := Lib.hid hB4
  have hF4 := Lib.hid (hF'.out.below hB4)
  clear hF hB4
  have j1 := Lib.hid (fun hp => by obtain ⟨b, off, e, hs⟩ := l1.out hp; exact (⟨b, off, e, hs.below hB4'.out⟩ : ∃ b off, a1 = some ⟨b, off, none⟩ ∧ IntsAt w4 b off xs))
  have j2 := Lib.hid (fun hp => by obtain ⟨b, off, e, hs⟩ := l2.out hp; exact (⟨b, off, e, hs.below hB4'.out⟩ : ∃ b off, a2 = some ⟨b, off, none⟩ ∧ IntsAt w4 b off ks))
  have j3 := Lib.hid (fun hp => by obtain ⟨b, off, e, hs⟩ := l3.out hp; exact (⟨b, off, e, hs.below hB4'.out⟩ : ∃ b off, a3 = some ⟨b, off, none⟩ ∧ StrsAt w4 b off ts))
  have j4 := Lib.hid (fun hp => by obtain ⟨b, off, e, hs⟩ := l4.out hp; exact (⟨b, off, e, hs.below hB4'.out⟩ : ∃ b off, a4 = some ⟨b, off, none⟩ ∧ IntsAt w4 b off ws))
  clear l1 l2 l3 l4
  have hil := Lib.hid (its_len xs ks ts e2.out e3.out)
  have hig := Lib.hid (its_get xs ks ts)
  generalize hits : its xs ks ts = L at *
  replace hits := Lib.hid hits
  go_wp2
  go_loopw [21, 22, 24] (fun o1 o2 i wr => ∃ (n : Nat) (u v : Value), n ≤ xs.length ∧ i = .int .i64 n ∧ u = o1 ∧ v = o2 ∧ (∀ j, j < n → okAt xs ks ws ts j) ∧ wr.ownsRow w4.heap.size 23 3 u n (spCells ((L.map (·.key)).take n)) ∧ wr.ownsRow w4.heap.size 25 4 v n (slCells ((L.map fun x => (x.R, x.S)).take n)) ∧ Ap u v ∧ Below w4.heap.size w4 wr) (fun _ _ i _ => xs.length - (intOf i).toNat)
  case atStart => exact ⟨0, _, _, Nat.zero_le _, rfl, rfl, rfl, fun j h => absurd h (Nat.not_lt_zero _), World.ownsRow_nil _ _ _ _, World.ownsRow_nil _ _ _ _, Ap.nil _, Below.refl _ _⟩
  case round =>
    obtain ⟨n, u, v, hn, rfl, rfl, rfl, hokn, hown1, hown2, hap, hb⟩ := hrel
    replace hokn := Lib.hid hokn
    replace hown1 := Lib.hid hown1
    replace hown2 := Lib.hid hown2
    replace hap := Lib.hid hap
    replace hb := Lib.hid hb
    by_cases hlt : n < xs.length
    · obtain ⟨b1, o1, rfl, i1⟩ := j1.out (by omega)
      obtain ⟨b2, o2, rfl, i2⟩ := j2.out (by rw [e2.out]; omega)
      obtain ⟨b3, o3, rfl, i3⟩ := j3.out (by rw [e3.out]; omega)
      obtain ⟨b4, o4, rfl, i4⟩ := j4.out (by rw [e4.out]; omega)
      have c1 := (i1.below hb.out).c n hlt
      have c2 := (i2.below hb.out).c n (by rw [e2.out]; exact hlt)
      have c3 := (i3.below hb.out).c n (by rw [e3.out]; exact hlt)
      have c4 := (i4.below hb.out).c n (by rw [e4.out]; exact hlt)
      have zr := hb.out.size
      have t1 : b1 < wr.heap.size := Nat.lt_of_lt_of_le i1.lt zr
      have t2 : b2 < wr.heap.size := Nat.lt_of_lt_of_le i2.lt zr
      have t3 : b3 < wr.heap.size := Nat.lt_of_lt_of_le i3.lt zr
      have t4 : b4 < wr.heap.size := Nat.lt_of_lt_of_le i4.lt zr
      clear i1 i2 i3 i4
      have d1 := getD_int hlt
      have d2 := getD_int (show n < ks.length by rw [e2.out]; exact hlt)
      have d3 := getD_str (show n < ts.length by rw [e3.out]; exact hlt)
      have d4 := getD_int (show n < ws.length by rw [e4.out]; exact hlt)
      have hz1 := hz.out ts[n] (List.getElem_mem _)
      have hLn := hig.out n hlt (by rw [e2.out]; exact hlt) (by rw [e3.out]; exact hlt) (by rw [hil.out]; exact hlt)
      have hs1 := take_snoc (L.map (·.key)) n (by rw [List.length_map, hil.out]; exact hlt)
      have hs2 := take_snoc (L.map fun x => (x.R, x.S)) n (by rw [List.length_map, hil.out]; exact hlt)
      rw [List.getElem_map, hLn] at hs1 hs2
      clear hLn
      generalize xs[n] = x at *
      generalize ks[n] = k at *
      generalize ts[n] = t at *
      generalize ws[n] = c at *
      replace d1 := Lib.hid d1
      replace d2 := Lib.hid d2
      replace d3 := Lib.hid d3
      replace d4 := Lib.hid d4
      replace hs1 := Lib.hid hs1
      replace hs2 := Lib.hid hs2
      obtain ⟨K, ek, hKey, hK⟩ := key_any x
      obtain ⟨R, S, es, hSig, hS⟩ := sign_any x k t hz1
      replace hKey := Lib.hid hKey
      replace hK := Lib.hid hK
      replace hSig := Lib.hid hSig
      replace hS := Lib.hid hS
      have hFr := Lib.hid (hF4.out.below hb.out)
      go_wp2_with fail
      refine (hKey.out _ hFr.out).mono ?_; rintro e w5 ⟨rfl, hb5⟩
      have z5 := hb5.size
      obtain ⟨kc, -⟩ := bcell hb5
      replace c1 := (kc _ _ t1).trans c1
      replace c2 := (kc _ _ t2).trans c2
      replace c3 := (kc _ _ t3).trans c3
      replace c4 := (kc _ _ t4).trans c4
      replace t1 : b1 < w5.heap.size := by omega
      replace t2 : b2 < w5.heap.size := by omega
      replace t3 : b3 < w5.heap.size := by omega
      replace t4 : b4 < w5.heap.size := by omega
      have ow1 := Lib.hid (own_below hown1.out hb5)
      have ow2 := Lib.hid (own_below hown2.out hb5)
      have hB5 := Lib.hid (below_seq hb.out hb5)
      clear kc hown1 hown2 hb hb5
      go_upto_region 17 with fail
      have hKs := Lib.hid (SpAt.fresh w5 K.x K.y K.far 23)
      have hB6 := Lib.hid (balloc hB5.out (.cells #[.int .i64 K.x, .int .i64 K.y, .bool K.far] 23))
      replace ow1 := Lib.hid (ow1.out.alloc (.cells #[.int .i64 K.x, .int .i64 K.y, .bool K.far] 23))
      replace ow2 := Lib.hid (ow2.out.alloc (.cells #[.int .i64 K.x, .int .i64 K.y, .bool K.far] 23))
      have hS3 : S3 (w5.alloc (.cells #[.int .i64 K.x, .int .i64 K.y, .bool K.far] 23)) b1 (o1 + n) b2 (o2 + n) b3 (o3 + n) x k t (w5.alloc (.cells #[.int .i64 K.x, .int .i64 K.y, .bool K.far] 23)) := ⟨by go_simp, by go_simp, by go_simp, by simp; omega, by simp; omega, by simp; omega, Below.refl _ _⟩
      have hc4 : (w5.alloc (.cells #[.int .i64 K.x, .int .i64 K.y, .bool K.far] 23)).cell? ⟨b4, o4 + n, none⟩ = some (.int .i64 c) := by go_simp
      have hl4 : b4 < (w5.alloc (.cells #[.int .i64 K.x, .int .i64 K.y, .bool K.far] 23)).heap.size := by simp; omega
      have zK : w5.heap.size < (w5.alloc (.cells #[.int .i64 K.x, .int .i64 K.y, .bool K.far] 23)).heap.size := by simp
      have hFW := Lib.hid (hF4.out.below hB6.out)
      replace hc4 := Lib.hid hc4
      clear c1 c2 c3 c4 hB5
      generalize w5.alloc (.cells #[.int .i64 K.x, .int .i64 K.y, .bool K.far] 23) = W at *
      go_cut [27, 28] from 104 to 160 (fun s27 s28 wx => ∃ p : Nat, s27 = .pointer (some ⟨p, 0, none⟩) ∧ s28 = es ∧ SlAt wx p R S ∧ W.heap.size ≤ p ∧ Below W.heap.size W wx)
      case first =>
        have S0 := hS3
        obtain ⟨t0, t1, t2, t3, t4, t5, -⟩ := hS3
        go_region_held3 (fun w' => w'.cell? ⟨b1, o1 + n, none⟩ = some (.int .i64 x) ∧ w'.cell? ⟨b2, o2 + n, none⟩ = some (.int .i64 k) ∧ w'.cell? ⟨b3, o3 + n, none⟩ = some (.string t) ∧ b1 < W.heap.size ∧ b2 < W.heap.size ∧ b3 < W.heap.size ∧ Below W.heap.size W w') (first | with_reducible exact S0.drew | with_reducible exact (S0.alloc _).drew | with_reducible exact S3.goes S0 hwa | with_reducible exact (S3.goes S0 hwa).alloc _ | (refine S3.goes S0 ?_; repeat (first | with_reducible exact hwa | with_reducible refine balloc ?_ _ | with_reducible refine Below.drew ?_ | with_reducible refine below_set ?_ (by first | omega | (dsimp only; omega)) _))) (first | (go_at_call 22; refine (hSig.out _ (hFW.out.below (by repeat (with_reducible first | exact Below.refl _ _ | refine balloc ?_ _ | refine Below.drew ?_)))).mono ?_; rintro e wa ⟨rfl, ha⟩; have hwa : Below W.heap.size W wa := below_seq (by repeat (with_reducible first | exact Below.refl _ _ | refine balloc ?_ _ | refine Below.drew ?_)) ha; have hza := hwa.size; (first | (with_reducible have kA := gr1 ha; obtain ⟨a0, a1, a2, a3, a4, a5, a6, a7, a8⟩ := id kA) | (with_reducible have kA := gs1 ha; obtain ⟨a0, a1, a2, a3, a4, a5, a6, a7, a8⟩ := id kA) | skip)))
        all_goals
          go_wp2_with fail
          go_meet
          refine ⟨_, rfl, rfl, ?_, by omega, ?_⟩
          · repeat (with_reducible first | assumption | exact SlAt.fresh _ _ _ _ | refine SlAt.set4 (R0 := ⟨0, 0, false⟩) (S0 := 0) ?_ _ _)
          · repeat (with_reducible first | exact hwa | refine balloc ?_ _ | refine Below.drew ?_ | refine below_set ?_ (by first | omega | (dsimp only; omega)) _)
      case rest =>
        obtain ⟨p, rfl, rfl, hp, hpl, hw⟩ := hcut
        have hBc := Lib.hid (below_seq hB6.out hw)
        have hKc := hKs.out.below hw
        have hc4' := ((bcell hw).1 _ _ hl4).trans hc4.out
        have hup := Lib.hid (show some p ≠ u.ownBlock from fun e => by have := (ow1.out.lt p e.symm).2; omega)
        have hl4' : b4 < wc.heap.size := Nat.lt_of_lt_of_le hl4 hw.size
        replace ow1 := Lib.hid (own_below ow1.out hw)
        replace ow2 := Lib.hid (own_below ow2.out hw)
        have zc := hw.size
        clear hw hB6 hKs hFW hS3
        rcases hS.out with ⟨rfl, rfl, rfl, x1, x2, y1, y2, tz⟩ | ⟨E, rfl, hno⟩
        · rcases hK.out with ⟨rfl, rfl, -, -⟩ | ⟨E, rfl, hno⟩
          · by_cases w0 : 1 ≤ c
            · by_cases w1' : c < 1013
              · have hok2 := Lib.hid (show ∀ j, j < n + 1 → okAt xs ks ws ts j by
                  intro j hj
                  by_cases hjn : j < n
                  · exact hokn.out j hjn
                  · obtain rfl : j = n := by omega
                    exact ⟨by rw [d1.out]; exact ⟨x1, x2⟩, by rw [d2.out]; exact ⟨y1, y2⟩, by rw [d3.out]; exact tz, by rw [d4.out]; exact ⟨w0, w1'⟩⟩)
                have tl1 : Hid (((L.map (·.key)).take n).length = n) := Lib.hid (by rw [List.length_take, List.length_map, hil.out]; omega)
                have tl2 : Hid (((L.map fun x => (x.R, x.S)).take n).length = n) := Lib.hid (by rw [List.length_take, List.length_map, hil.out]; omega)
                generalize hT1 : (L.map (·.key)).take n = T1 at *
                generalize hT2 : (L.map fun x => (x.R, x.S)).take n = T2 at *
                clear hT1 hT2 hokn d1 d2 d3 d4 hK hS hKey hSig hc4
                have e1k : Hid (sq (4 * x) = (mkIt x k t).key) := Lib.hid rfl
                generalize sq (4 * x) = K at *
                generalize hM : mkIt x k t = M at *
                have hpa := Lib.hid (hp.below (below_alloc wc (.cells #[.int .i64 K.x, .int .i64 K.y, .bool K.far] 23)))
                obtain ⟨r0, r1, r2, -, -, -, rl⟩ := hKc
                clear hp
                replace e1k := Lib.hid e1k.out.symm
                obtain ⟨MR, hMR⟩ : ∃ MR, M.R = MR := ⟨_, rfl⟩
                obtain ⟨MS, hMS⟩ : ∃ MS, M.S = MS := ⟨_, rfl⟩
                rw [hMR, hMS] at hpa hs2
                rw [e1k.out] at hs1
                clear hMR hMS hM e1k
                go_wp2_with (first | (at_builtin; refine wpl_append_spot rfl _ _ _ rfl (by kernel_rfl) w4.heap.size _ T1 n rfl (ow1.out.alloc _) tl1.out (by omega) (by simp only [World.size_alloc]; omega) wc.heap.size K rfl (by go_simp) (by go_simp) (by go_simp) ?_; intro u' w6 hown1' hgrow hbel hloc; obtain ⟨hown2', hap'⟩ := row_pair (ow2.out.alloc _) hap.out hgrow hloc; have u0 := hgrow.cell hpa.out.c0 hup.out; have u1 := hgrow.cell hpa.out.c1 hup.out; have u2 := hgrow.cell hpa.out.c2 hup.out; have u3 := hgrow.cell hpa.out.c3 hup.out; have zg := hgrow.size; simp only [World.size_alloc] at zg; replace hown1' := Lib.hid hown1'; replace hown2' := Lib.hid hown2'; replace hap' := Lib.hid hap'; replace hbel := Lib.hid (hbel w4 (balloc hBc.out _)); clear hgrow hloc r0 r1 r2) | (at_builtin; refine wpl_append_seal rfl _ _ _ rfl (by kernel_rfl) w4.heap.size _ T2 n rfl (hown2'.out.alloc _) tl2.out (by omega) (by simp only [World.size_alloc]; omega) w6.heap.size (MR, MS) rfl (by go_simp) (by go_simp) (by go_simp) (by go_simp) ?_; intro v' w7 hown2'' hgrow hbel2 hloc; obtain ⟨hown1'', hap''⟩ := row_pair (hown1'.out.alloc _) hap'.out.symm hgrow hloc; replace hown1'' := Lib.hid hown1''; replace hown2'' := Lib.hid hown2''; replace hap'' := Lib.hid hap''.symm; replace hbel2 := Lib.hid (hbel2 w4 (balloc hbel.out _)); clear hgrow hloc u0 u1 u2 u3) | fail)
                go_wp2
                go_roundw
                case rel => exact ⟨n + 1, _, _, by omega, by go_num, rfl, rfl, hok2.out, by rw [hs1.out]; exact hown1''.out, by rw [hs2.out]; exact hown2''.out, hap''.out, hbel2.out⟩
                case measure => simp [intOf]; omega
              · have q6 : ((1013 : Int) ≤ c) := by omega
                go_wp2
                go_ret
                exact ⟨rfl, below_seq hB4'.out hBc.out⟩
            · have q6 : c < 1 := by omega
              go_wp2
              go_ret
              exact ⟨rfl, below_seq hB4'.out hBc.out⟩
          · exact absurd ⟨x1, x2⟩ hno
        · rcases hK.out with ⟨rfl, rfl, -, -⟩ | ⟨E', rfl, -⟩
          · go_wp2
            go_ret
            exact ⟨rfl, below_seq hB4'.out hBc.out⟩
          · go_wp2
            go_ret
            exact ⟨rfl, below_seq hB4'.out hBc.out⟩
    · obtain rfl : n = xs.length := by omega
      have hkl : (L.map (·.key)).take xs.length = L.map (·.key) := List.take_of_length_le (by rw [List.length_map, hil.out]; exact Nat.le_refl _)
      have hsl : (L.map fun x => (x.R, x.S)).take xs.length = L.map fun x => (x.R, x.S) := List.take_of_length_le (by rw [List.length_map, hil.out]; exact Nat.le_refl _)
      rw [hkl] at hown1
      rw [hsl] at hown2
      clear hkl hsl
      have m3 := Lib.hid (fun (W : World) (hb : Below w4.heap.size w4 W) => (⟨a3, k3, by rw [e3.out], fun hp => by obtain ⟨b, off, e, hs⟩ := j3.out hp; exact ⟨b, off, e, hs.below hb⟩⟩ : StrSl W (.slice a3 xs.length k3) ts))
      have m4 := Lib.hid (fun (W : World) (hb : Below w4.heap.size w4 W) => (⟨a4, k4, by rw [e4.out], fun hp => by obtain ⟨b, off, e, hs⟩ := j4.out hp; exact ⟨b, off, e, hs.below hb⟩⟩ : IntSl W (.slice a4 xs.length k4) ws))
      clear j1 j2 j3 j4
      have hV := Lib.hid (all_right e2.out e3.out e4.out e5 hokn.out u (.slice a3 xs.length k3) v (.slice a4 xs.length k4))
      have hW := Lib.hid (none_wrong (ws := ws) e2.out e3.out e5 hokn.out u (.slice a3 xs.length k3) v)
      have hB1 := Lib.hid (fun j hj m m0 m1 => one_bad e2.out e3.out e4.out e5 hokn.out j hj m m0 m1 u (.slice a3 xs.length k3) v (.slice a4 xs.length k4))
      have hT := Lib.hid (fun j hj m m0 m1 => one_told (ws := ws) e2.out e3.out e5 hokn.out j hj m m0 m1 u (.slice a3 xs.length k3) v)
      have hLo := Lib.hid (its_okL (ws := ws) e2.out e3.out hokn.out)
      rw [hits.out] at hV hW hB1 hT hLo
      have hFr := Lib.hid (hF4.out.below hb.out)
      have s1 := Lib.hid (own_spots hown1.out (by rw [List.length_map, hil.out]))
      have s2 := Lib.hid (own_seals hown2.out (by rw [List.length_map, hil.out]))
      clear hokn hz hits hig
      go_wp2_with fail
      refine (hV.out wr hFr.out s1.out (m3.out _ hb.out) s2.out (m4.out _ hb.out)).mono ?_; rintro e w5 ⟨rfl, hb5⟩
      replace s1 := Lib.hid (s1.out.below hb5)
      replace s2 := Lib.hid (s2.out.below hb5)
      replace hown1 := Lib.hid (own_below hown1.out hb5)
      replace hown2 := Lib.hid (own_below hown2.out hb5)
      have hB5 := Lib.hid (below_seq hb.out hb5)
      clear hb5 hb hFr hV
      go_wp2_with fail
      refine (hW.out w5 (hF4.out.below hB5.out) s1.out (m3.out _ hB5.out) s2.out).mono ?_; rintro e w6 ⟨ax, cx, rfl, hb6⟩
      replace s1 := Lib.hid (s1.out.below hb6)
      replace hown1 := Lib.hid (own_below hown1.out hb6)
      replace hown2 := Lib.hid (own_below hown2.out hb6)
      have hB6 := Lib.hid (below_seq hB5.out hb6)
      clear hb6 hB5 hW s2
      by_cases p0 : at' < 0
      · go_wp2
        go_ret
        exact ⟨rfl, below_seq hB4'.out hB6.out⟩
      obtain ⟨j, rfl⟩ : ∃ j : Nat, at' = (j : Int) := ⟨at'.toNat, by omega⟩
      by_cases p1 : (xs.length : Int) ≤ (j : Int)
      · go_wp2
        go_ret
        exact ⟨rfl, below_seq hB4'.out hB6.out⟩
      by_cases p2 : more < 1
      · go_wp2
        go_ret
        exact ⟨rfl, below_seq hB4'.out hB6.out⟩
      by_cases p3 : 1013 ≤ more
      · go_wp2
        go_ret
        exact ⟨rfl, below_seq hB4'.out hB6.out⟩
      have hj : j < L.length := by rw [hil.out]; omega
      have hjx : j < xs.length := by omega
      obtain ⟨sb, so, sc, rfl, hsl, hsB, hsf⟩ := own_seals_at hown2.out (by rw [List.length_map, hil.out]) (by omega)
      have cj := hsl.cs j (by rw [List.length_map]; exact hj)
      simp only [List.getElem_map] at cj
      obtain ⟨-, -, -, -, -, -, t0, t1⟩ := hLo.out j hj
      have hlt := hsl.lt
      have hfz := hsf (so + j * 4 + 3)
      have zw := hB6.out.size
      have hB1' := Lib.hid (hB1.out j hj more (by omega) (by omega))
      have hT' := Lib.hid (hT.out j hj more (by omega) (by omega))
      have hput := Lib.hid (hsl.put j (by rw [List.length_map]; exact hj) ((L[j].S + more) % 1013))
      simp only [List.getElem_map] at hput
      have hne := Lib.hid (show u.ownBlock ≠ some sb from fun e => hap.out sb e rfl)
      have hlset := Lib.hid (show xs.length = ((L.map fun x => (x.R, x.S)).set j (L[j].R, (L[j].S + more) % 1013)).length by rw [List.length_set, List.length_map, hil.out])
      clear hsl hB1 hT hLo hown1 hown2
      generalize L[j].S = S at *
      generalize L[j].R = R at *
      have e1 : IntKind.i64.wrap (S + more) = S + more := IntWalk.i64_in _ (by omega)
      have e2' : (S + more).tmod 1013 = (S + more) % 1013 := Int.tmod_eq_emod_of_nonneg (by omega)
      have p4 : decide (S < 0) = false := by rw [decide_eq_false_iff_not]; omega
      have p5 : decide (1013 ≤ S) = false := by rw [decide_eq_false_iff_not]; omega
      obtain ⟨q, hq⟩ : ∃ q, (S + more) % 1013 = q := ⟨_, rfl⟩
      rw [hq] at hput hB1' hT' e2' hlset
      clear hq
      have hkeys := Lib.hid (s1.out.other (o := so + j * 4 + 3) (.int .i64 q) hne.out)
      have hBW := Lib.hid (below_set (p := ⟨sb, so + j * 4 + 3, none⟩) hB6.out hsB (.int .i64 q))
      have hput' : Hid (SlSl (w6.setCell ⟨sb, so + j * 4 + 3, none⟩ (.int .i64 q)) (.slice (some ⟨sb, so, none⟩) xs.length sc) ((L.map fun x => (x.R, x.S)).set j (R, q))) := Lib.hid ⟨_, sc, by rw [← hlset.out], fun _ => ⟨sb, so, rfl, hput.out⟩⟩
      clear hput s1 hne
      go_wp2_with fail
      refine (hB1'.out _ (hF4.out.below hBW.out) hkeys.out (m3.out _ hBW.out) hput'.out (m4.out _ hBW.out)).mono ?_; rintro e w7 ⟨rfl, hb7⟩
      have k1 := Lib.hid (hkeys.out.below hb7)
      have k2 := Lib.hid (hput'.out.below hb7)
      have hB7 := Lib.hid (below_seq hBW.out hb7)
      clear hb7 hkeys hput' hBW hB1' cj e1 e2'
      go_wp2_with fail
      refine (hT'.out w7 (hF4.out.below hB7.out) k1.out (m3.out _ hB7.out) k2.out).mono ?_; rintro e w8 ⟨tb, toff, tc, rfl, tcell, tlt, hb8⟩
      have hB8 := Lib.hid (below_seq hB7.out hb8)
      clear hb8 hT'
      go_wp2
      go_ret
      exact ⟨rfl, below_seq hB4'.out hB8.out⟩
theorem one_at : ∃ C0 S0 S1 e1 : Int, askN ⟨1189, 3667, false⟩ ⟨1189, 3667, false⟩ (⟨#[97]⟩ : ByteArray).data.toList = C0 ∧ (1 + C0 * 1) % 1013 = S0 ∧ 0 ≤ S0 ∧ S0 < 1013 ∧ IntKind.i64.wrap (S0 + 1) = S0 + 1 ∧ (S0 + 1).tmod 1013 = S1 ∧ It.ok ⟨⟨1189, 3667, false⟩, ⟨#[97]⟩, ⟨1189, 3667, false⟩, S1, e1⟩ ∧ wrongs [e1] 1 = [0] := by
  have h := It.plus_ok (mkIt_ok 1 1 ⟨#[97]⟩ (by decide)) 1
  have he := It.plus_e (mkIt_e 1 1 ⟨#[97]⟩) 1
  have h4 : sq (4 * 1) = (⟨1189, 3667, false⟩ : Sp) := sq_4
  have s0 : 0 ≤ (mkIt 1 1 ⟨#[97]⟩).S := Int.emod_nonneg _ (by decide)
  have s1 : (mkIt 1 1 ⟨#[97]⟩).S < 1013 := Int.emod_lt_of_pos _ (by decide)
  have hk : ((mkIt 1 1 ⟨#[97]⟩).add 1).key = ⟨1189, 3667, false⟩ := h4
  have hr : ((mkIt 1 1 ⟨#[97]⟩).add 1).R = ⟨1189, 3667, false⟩ := h4
  refine ⟨_, (mkIt 1 1 ⟨#[97]⟩).S, ((mkIt 1 1 ⟨#[97]⟩).add 1).S, ((mkIt 1 1 ⟨#[97]⟩).add 1).e, rfl, ?_, s0, s1, IntWalk.i64_in _ (by omega), Int.tmod_eq_emod_of_nonneg (by omega), ?_, ?_⟩
  · rw [← h4]; rfl
  · have : ((mkIt 1 1 ⟨#[97]⟩).add 1) = ⟨⟨1189, 3667, false⟩, ⟨#[97]⟩, ⟨1189, 3667, false⟩, ((mkIt 1 1 ⟨#[97]⟩).add 1).S, ((mkIt 1 1 ⟨#[97]⟩).add 1).e⟩ := by rw [← hk]; congr 1
    rw [← this]; exact h
  · generalize ((mkIt 1 1 ⟨#[97]⟩).add 1).e = e at *
    have hf : ¬ (sq ([e].getD 0 0)).far = true := by
      show ¬ (sq e).far = true
      rw [sq_far_not (by omega)]; decide
    rw [wrongs, if_neg hf]; rfl
theorem batchHolds_law (v1 v2 v3 v4 : Value) (at' : Int) (ha : (Lit.int .i64 at').wf = true) (more : Int) (hm : (Lit.int .i64 more).wf = true) (w : World) (o1 : IntsV w v1) (o2 : IntsV w v2) (o3 : StrsV w v3) (o4 : IntsV w v4) (hF : FarAt w) :
    Calls Tryd.prog 5 #[v1, v2, v3, v4, .int .i64 at', .int .i64 more] w fun e w' => e = .returned (.bool true) ∧ Below w.heap.size w w' := by
  obtain ⟨xs, h1, m1, -⟩ := o1.sl
  obtain ⟨ks, h2, m2, -⟩ := o2.sl
  obtain ⟨ts, h3, m3, hz⟩ := o3
  obtain ⟨ws, h4, m4, -⟩ := o4.sl
  obtain ⟨C0, S0, S1, e1, hC0, hS0, s0, s1, g1, g2, hI, hw⟩ := one_at
  have hb := hm
  simp [Lit.wf] at hb
  by_cases h : ks.length = xs.length ∧ ts.length = xs.length ∧ ws.length = xs.length ∧ xs.length ≤ 12
  · exact bh_run xs ks ts ws v1 v2 v3 v4 at' more C0 S0 S1 e1 w hF hC0 hS0 s0 s1 g1 g2 hI hw h1 h2 h3 h4 hz h.1 h.2.1 h.2.2.1 h.2.2.2 hb.1 hb.2
  · obtain ⟨a1, k1, rfl, -⟩ := h1
    obtain ⟨a2, k2, rfl, -⟩ := h2
    obtain ⟨a3, k3, rfl, -⟩ := h3
    obtain ⟨a4, k4, rfl, -⟩ := h4
    exact bh_len xs ks ts ws a1 a2 a3 a4 k1 k2 k3 k4 at' more C0 S0 S1 e1 w hF hC0 hS0 s0 s1 g1 g2 hI hw m1 m2 m3 m4 h
end Go.Proofs.YtcphbigiooibcaaDoor
namespace Go.Proofs.YtcphbigiooibcaaDoor.batchHolds
open Go.ChangeShapes Go.WideShapes Go.ChangeAt Go.RowKit
set_option linter.unusedVariables false
theorem typesOk : ([30, 30, 42, 30, 3, 3].all fun t => Tryd.prog.readableRec t && decide (t < Tryd.prog.types.size)) = true := by kernel_rfl
set_option maxRecDepth 100000 in
theorem lifted (os : Os) (started : os.Started) (H : Type) (enc : TypeId × Value → H) :
    ReturnsInHanded {} Tryd.checked os 5 .any (fun w args => (Rows.batchHoldsSpec.pre enc Tryd.prog Tryd.f5 [] false w args ∧ laidMetH Tryd.prog farLaid w) ∧ sizedMet enc Tryd.prog Tryd.f5 (OpenSpec.ofChange Rows.batchHoldsSpec) false w args)
      (Rows.batchHoldsSpec.post enc Tryd.prog Tryd.f5 false true false false) := by
  refine returnsInHanded_of_change_and (C := Tryd.checked) (X := fun w _ => laidMetH Tryd.prog farLaid w) (fun _ _ _ hh h => h.of_heap hh) Tryd.ownK started (by kernel_rfl) Tryd.func5
    (ChangeSpec.witness_shaped (enc := enc) (C := Tryd.checked) (os := os) (X := fun w _ => laidMetH Tryd.prog farLaid w) false (World.doorLaid Tryd.prog 400 os) #[.slice none 0 0, .slice none 0 0, .slice none 0 0, .slice none 0 0, .int .i64 0, .int .i64 0] 8 rfl (World.shaped_of_RefB (by kernel_rfl) (by kernel_rfl)) (by kernel_rfl) (by kernel_rfl) (by kernel_rfl) (farLaid_met os _)) ?_
  intro W base args ds gs before hval0 hW hcnd hsz0 hL hholds
  have hval : ∀ (j : Nat) t v, Tryd.f5.params[j]? = some t → args[j]? = some v → Value.okWide Tryd.prog W .any base t v := hval0
  have hW' := hW
  obtain ⟨p, q, hA0, hV, rfl, hfz, hnd⟩ := hW
  have hA : DataW.TrodAll enc Tryd.prog W 0 (fun _ => true) true Tryd.f5.params.toList args.toList ds p := hA0
  obtain ⟨rfl, rfl⟩ := trodVars_none hV
  simp only [List.append_nil] at hW'
  have hlt : ∀ x ∈ p, x.block < W.heap.size := fun x hx => hW'.lt x hx
  have hsz : (DataW.weightsEach Tryd.prog (Tryd.f5.params.toList ++ Rows.batchHoldsSpec.plain.varTypes Tryd.prog) (ds ++ [])).all (· ≤ reachBytes) = true := hsz0
  rw [Tryd.params5] at hA hval hsz
  have hK := hA
  obtain ⟨v0, vs0, d0, ds0, p0, q0, hargs, rfl, rfl, h0, r0⟩ := trodAll_cons hA
  obtain ⟨v1, vs1, d1, ds1, p1, q1, rfl, rfl, rfl, h1, r1⟩ := trodAll_cons r0
  obtain ⟨v2, vs2, d2, ds2, p2, q2, rfl, rfl, rfl, h2, r2⟩ := trodAll_cons r1
  obtain ⟨v3, vs3, d3, ds3, p3, q3, rfl, rfl, rfl, h3, r3⟩ := trodAll_cons r2
  obtain ⟨v4, vs4, d4, ds4, p4, q4, rfl, rfl, rfl, h4, r4⟩ := trodAll_cons r3
  obtain ⟨v5, vs5, d5, ds5, p5, q5, rfl, rfl, rfl, h5, r5⟩ := trodAll_cons r4
  obtain ⟨rfl, rfl, rfl⟩ := trodAll_nil r5
  obtain rfl : args = #[v0, v1, v2, v3, v4, v5] := by cases args; simp_all
  have o0 := open_intl Tryd.underlying30 Tryd.underlying3 (by kernel_rfl) (hval 0 30 v0 rfl rfl) h0
  have o1 := open_intl Tryd.underlying30 Tryd.underlying3 (by kernel_rfl) (hval 1 30 v1 rfl rfl) h1
  have o2 := open_strl Tryd.underlying42 Tryd.underlying9 (by kernel_rfl) (hval 2 42 v2 rfl rfl) h2 hsz (j := 2) rfl rfl
  have o3 := open_intl Tryd.underlying30 Tryd.underlying3 (by kernel_rfl) (hval 3 30 v3 rfl rfl) h3
  obtain ⟨a4, rfl, rfl, rfl, w4⟩ := open_int Tryd.underlying3 (hval 4 3 v4 rfl rfl) h4
  obtain ⟨a5, rfl, rfl, rfl, w5⟩ := open_int Tryd.underlying3 (hval 5 3 v5 rfl rfl) h5
  clear hA0 hval0
  refine (batchHolds_law v0 v1 v2 v3 a4 w4 a5 w5 W o0 o1 o2 o3 (farLaid_at hL)).mono fun e W' ⟨he, hg⟩ => ?_
  subst he
  exact ⟨_, rfl, post_of_below (pa := _) (pv := []) hW' (fun _ _ _ => (trodAll_cons_mk (shut_bool Tryd.underlying4 _) trodAll_mk0)) (fun sp hsp => trodAll_stays Tryd.laidOutK hg typesOk hK (fun x hx => ⟨hlt x hx, hsp x (by first | exact hx | (simp at hx) | simpa using hx)⟩)) (fun _ _ => rfl) (by simp) hg (ok_one (by kernel_rfl) rfl (okWide_bool_mk Tryd.underlying4 _))⟩

theorem over : Rows.batchHoldsRow.holds Tryd.pinned (OpenSpec.ofChange Rows.batchHoldsSpec) :=
  OpenClaim.holds_of_wide 5 Tryd.f5 rfl rfl rfl rfl rfl rfl rfl ⟨rfl, rfl, rfl, rfl, rfl⟩ rfl rfl rfl rfl rfl (by kernel_rfl) Tryd.func5 (by show joinedFacts Tryd.prog _ _ _ _ = true; unfold joinedFacts; rw [mayEnterK, liftsFinalK, makeK]; kernel_rfl)
    (of_decide_eq_true (by kernel_rfl)) (by unfold Func.isWrapper; first | (rw [if_pos (by decide +kernel)]; kernel_rfl) | (rw [if_neg (by decide +kernel)]; exact ⟨rfl, rfl⟩))
    (fun os started H enc _ => lifted os started H enc)
theorem card : Rows.BatchHoldsCardSaid :=
  Claim7.holds_tied_plain_at .later [] [.data] true (true, "60558bf5146220f1391580bf7513f01283a721c5be6bc01e648492e84d139369") true
    over (fun _ h => by cases h) (by kernel_rfl) (fun _ h => by cases h) batchHolds_row_tie rfl ⟨rfl, rfl⟩ mainIsK rfl
    (fun f fn hf hfn => by
      obtain rfl : f = 5 := Option.some.inj ((show Tryd.prog.funcNamed "pairstone/stonelaw3.BatchHolds" = some 5 by kernel_rfl).symm.trans hf) |>.symm
      obtain rfl : fn = Tryd.f5 := (Option.some.inj (Tryd.func5.symm.trans hfn)).symm
      exact ⟨by kernel_rfl, fun j t ht => by
        rw [Tryd.params5] at ht
        have hm : t ∈ ([30, 30, 42, 30, 3, 3] : List TypeId) := by simpa using Array.mem_of_getElem? ht
        have hall : (([30, 30, 42, 30, 3, 3] : List TypeId).all fun u => !Tryd.prog.wantsStandIn u) = true := by kernel_rfl
        exact (show Tryd.prog.wantsStandIn t = false by simpa using List.all_eq_true.1 hall t hm)⟩)
    (by kernel_rfl)
#print axioms card
end Go.Proofs.YtcphbigiooibcaaDoor.batchHolds
