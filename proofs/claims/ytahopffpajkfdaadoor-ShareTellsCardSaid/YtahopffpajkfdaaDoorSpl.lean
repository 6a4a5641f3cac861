/- Walk of share.Split. -/
import Derived.Test.YtahopffpajkfdaaDoorBwd
import Derived.RangeFuncBox
import Derived.Laws.OwnMore
namespace Go.Proofs.YtahopffpajkfdaaDoor
open Go.RowKit Go.Shelf
set_option maxRecDepth 100000
set_option linter.unusedVariables false
set_option linter.unusedSimpArgs false
attribute [local go_sem] Oper.semAt_some
/-- What a polynomial is at x, modulo Q. -/
def val (x : Int) (l : List Int) : Int := l.foldr (fun c y => (y * x + c) % 1013) 0
/-- The shares. -/
def splitL (l : List Int) (n : Nat) : List (Int × Int) := (List.range n).map fun k => (((k + 1 : Nat) : Int), val ((k + 1 : Nat) : Int) l)
theorem splitL_succ (l : List Int) (n : Nat) : splitL l (n + 1) = splitL l n ++ [(((n + 1 : Nat) : Int), val ((n + 1 : Nat) : Int) l)] := by simp [splitL, List.range_succ]
theorem splitL_len (l : List Int) (n : Nat) : (splitL l n).length = n := by simp [splitL]
/-- What has been reckoned of those that have come. -/
def hor (x : Int) (pre : List (Int × Rest)) : Int := pre.foldl (fun y p => (y * x + p.2.1) % 1013) 0
theorem hor_snoc (x : Int) (pre : List (Int × Rest)) (p : Int × Rest) : hor x (pre ++ [p]) = (hor x pre * x + p.2.1) % 1013 := by simp [hor]
theorem hor_bd (x : Int) (pre : List (Int × Rest)) : 0 ≤ hor x pre ∧ hor x pre < 1013 := by
  rcases List.eq_nil_or_concat pre with rfl | ⟨q, p, rfl⟩
  · exact ⟨Int.le_refl 0, by show (0 : Int) < 1013; decide⟩
  · rw [List.concat_eq_append, hor_snoc]; exact ⟨Int.emod_nonneg _ (by decide), Int.emod_lt_of_pos _ (by decide)⟩
theorem hor_back (x : Int) (l : List Int) (h : l.all okR = true) : ∀ k, k ≤ l.length → hor x (upto (back l) k) = val x (l.drop (l.length - k))
  | 0, _ => by simp [upto, hor, val]
  | k + 1, hk => by
    rw [upto_succ, hor_snoc, hor_back x l h k (by omega)]
    have e : l.drop (l.length - (k + 1)) = l[l.length - (k + 1)]'(by omega) :: l.drop (l.length - k) := by
      rw [List.drop_eq_getElem_cons (by omega)]; congr 2; omega
    rw [e]
    simp only [val, List.foldr_cons, back]
    rw [show l.length - 1 - k = l.length - (k + 1) by omega, restAt_ok h _ (by omega)]
theorem hor_all (x : Int) (l : List Int) (h : l.all okR = true) : hor x (upto (back l) l.length) = val x l := by
  rw [hor_back x l h l.length (Nat.le_refl _), Nat.sub_self, List.drop_zero]
/-- The cells of some shares. -/
def shCells : List (Int × Int) → List Value
  | [] => []
  | s :: l => .int .i64 s.1 :: .int .i64 s.2 :: shCells l
theorem shCells_len : ∀ l : List (Int × Int), (shCells l).length = l.length * 2
  | [] => rfl
  | s :: l => by simp only [shCells, List.length_cons, shCells_len l]; omega
theorem shCells_snoc : ∀ (l : List (Int × Int)) (s : Int × Int), shCells (l ++ [s]) = shCells l ++ [.int .i64 s.1, .int .i64 s.2]
  | [], _ => rfl
  | t :: l, s => by simp only [List.cons_append, shCells, shCells_snoc l s]
theorem shCells_get : ∀ (l : List (Int × Int)) (i : Nat) (h : i < l.length), (shCells l)[i * 2]? = some (.int .i64 l[i].1) ∧ (shCells l)[i * 2 + 1]? = some (.int .i64 l[i].2)
  | [], _, h => absurd h (Nat.not_lt_zero _)
  | s :: l, 0, _ => ⟨rfl, rfl⟩
  | s :: l, i + 1, h => by
    have := shCells_get l i (by simpa using h)
    rw [Nat.add_mul]
    exact this
/-- Shares that lie in a row. -/
structure ShsAt (w : World) (b off : Nat) (l : List (Int × Int)) : Prop where
  lt : b < w.heap.size
  cx : ∀ i (h : i < l.length), w.cell? ⟨b, off + i * 2, none⟩ = some (.int .i64 l[i].1)
  cy : ∀ i (h : i < l.length), w.cell? ⟨b, off + i * 2 + 1, none⟩ = some (.int .i64 l[i].2)
theorem ShsAt.below {w w' : World} {b off : Nat} {l : List (Int × Int)} (h : ShsAt w b off l) (hb : Below w.heap.size w w') : ShsAt w' b off l :=
  ⟨Nat.lt_of_lt_of_le h.lt hb.size, fun i hi => (hb.cell (p := ⟨b, off + i * 2, none⟩) h.lt).trans (h.cx i hi), fun i hi => (hb.cell (p := ⟨b, off + i * 2 + 1, none⟩) h.lt).trans (h.cy i hi)⟩
/-- A value that is a slice of these shares. -/
def ShSl (w : World) (v : Value) (l : List (Int × Int)) : Prop := ∃ a cap, v = .slice a l.length cap ∧ (0 < l.length → ∃ b off, a = some ⟨b, off, none⟩ ∧ ShsAt w b off l)
theorem ShSl.below {w w' : World} {v : Value} {l : List (Int × Int)} (h : ShSl w v l) (hb : Below w.heap.size w w') : ShSl w' v l := by
  obtain ⟨a, cap, rfl, h⟩ := h
  exact ⟨a, cap, rfl, fun h0 => by obtain ⟨b, off, e, hs⟩ := h h0; exact ⟨b, off, e, hs.below hb⟩⟩
theorem ShSl.put {w : World} {v : Value} {l : List (Int × Int)} {r : Nat} {o : Option (List Deferred)} {o' : Obj} (h : ShSl w v l) (hr : w.heap[r]? = some (.deferred o)) : ShSl (w.putObj r o') v l := by
  obtain ⟨a, cap, rfl, h⟩ := h
  refine ⟨a, cap, rfl, fun h0 => ?_⟩
  obtain ⟨b, off, rfl, hs⟩ := h h0
  have hk : ∀ {c v}, w.cell? c = some v → (w.putObj r o').cell? c = some v := fun hc => cell_kept hc (grownBy_putObj' w r o') (fun q e => by cases e; exact ⟨_, hr, rfl⟩)
  exact ⟨b, off, rfl, by simpa [World.putObj] using hs.lt, fun i hi => hk (hs.cx i hi), fun i hi => hk (hs.cy i hi)⟩
theorem own_shares {w : World} {B e : Nat} {v : Value} {l : List (Int × Int)} {n : Nat} (h : w.ownsRow B e 2 v n (shCells l)) (hn : n = l.length) : ShSl w v l := by
  subst hn
  obtain ⟨hl, h | ⟨g, cap, cur, rfl, hb, hg, hc, -, -, ht⟩⟩ := h
  · obtain ⟨rfl, h0⟩ := h
    exact ⟨none, 0, by rw [h0], fun hp => absurd h0 (by omega)⟩
  · refine ⟨_, _, rfl, fun _ => ⟨g, 0, rfl, (Array.getElem?_eq_some_iff.1 hg).1, fun i hi => ?_, fun i hi => ?_⟩⟩
    all_goals
      obtain ⟨k1, k2⟩ := shCells_get l i hi
      rw [cell_of_row w g _ cur e (0, 0) hg]
      simp only [Nat.zero_add]
      rw [← ht, List.getElem?_take, if_pos (by omega), Array.getElem?_toList] at k1 k2
      assumption
theorem info_share : (Tryd.prog.info? 23).map (fun i => (i.zero, i.size, i.bytes)) = some (some (.agg #[.int .i64 0, .int .i64 0]), 2, 16) := by kernel_rfl
theorem wpl_append_share {w : World} {ops : Array Oper} {rest : List Oper} {o : Oper} {a : Act} {Q : Exit → Act → World → Prop} (hgd : o.guard = none) (s x : Operand) (t : TypeId)
    (ho : o.op = .call { callee := .builtin .append, args := #[s, x], argTypes := #[t, t] }) (ht : Tryd.prog.underlying t = some (.slice 23)) (B : Nat) (v : Value) (l : List (Int × Int)) (n : Nat) (hs : a.eval s = v)
    (hown : w.ownsRow B 23 2 v n (shCells l)) (hn : l.length = n) (hl : n ≤ 1000000) (hB : B ≤ w.heap.size) (g : Nat) (c : Int × Int) (hx : a.eval x = .slice (some ⟨g, 0, none⟩) 1 1)
    (h0 : w.cell? ⟨g, 0, none⟩ = some (.int .i64 c.1)) (h1 : w.cell? ⟨g, 1, none⟩ = some (.int .i64 c.2))
    (h : ∀ v' w', w'.ownsRow B 23 2 v' (n + 1) (shCells (l ++ [c])) → w.grownBy w' v.ownBlock → (∀ a, Below B a w → Below B a w') → (v'.ownBlock = v.ownBlock ∨ v'.ownBlock = some w.heap.size) → wpList Tryd.prog ops Q rest (a.put o.dst v') w') :
    wpList Tryd.prog ops Q (o :: rest) a w := by
  obtain ⟨i0, hi, hz0, hz1, hz2⟩ := info_parts info_share
  refine wpList_append_own_at _ hgd s x _ ho B _ i0 _ 2 16 ht hi hz0 hz1 hz2 rfl (by decide) v n _ hs hown ⟨g, 0, none⟩ 1 1 [.int .i64 c.1, .int .i64 c.2] hx rfl ?_ ?_ (by unfold maxLen; omega) (by omega) hB ?_
  · intro j u hj
    have e : ∀ k, (⟨g, 0, none⟩ : Addr).add k = ⟨g, k, none⟩ := fun k => by rw [add_none, Nat.zero_add]
    rw [e]
    match j, hj with
    | 0, hj => cases hj; exact h0
    | 1, hj => cases hj; exact h1
  · intro u hu
    simp only [List.mem_cons, List.not_mem_nil, or_false] at hu
    rcases hu with rfl | rfl <;> rfl
  · intro v' w' h3 h4 _ h6
    rw [← shCells_snoc] at h3
    exact h v' w' h3 h4 (fun a hb => Below.grown hb h4 hB (fun k hk => (hown.lt k hk).1)) h6
/-- The marks that ranges over functions have left among the calls to come. -/
def mark (r : Nat) : Deferred := { target := .collected r, args := #[] }
theorem leaves_marks {F : Fence} {n : Nat} {P : Program} {fn : Func} {tmps : Array Value} {R : Ending → World → Prop} (v : Value) (J : World → Prop) (hres : ∀ w, (results fn tmps).run P w = .ok v w) (hR : ∀ w, J w → R (.returned v) w) :
    ∀ (rs : List Nat) (w : World), rs.Nodup → (∀ r ∈ rs, w.heap[r]? = some (.deferred (some []))) → (∀ r ∈ rs, ∀ w, w.heap[r]? = some (.deferred (some [])) → J w → J (w.putObj r (.deferred none))) → J w → LeavesInM F n P fn tmps R (rs.map mark) .returning w
  | [], w, _, _, _, h => ⟨v, hres w, hR w h⟩
  | r :: rs, w, hn, hh, hJ, h => by
    have h1 := hh r (List.mem_cons_self ..)
    refine ⟨by simp, .inl ⟨r, _, rfl, run_takeDeferred h1, ?_⟩⟩
    refine leaves_marks v J hres hR rs _ (List.nodup_cons.1 hn).2 (fun q hq => ?_) (fun q hq => hJ q (List.mem_cons_of_mem _ hq)) (hJ r (List.mem_cons_self ..) w h1 h)
    rw [World.putObj_heap_other (fun e => (List.nodup_cons.1 hn).1 (by rw [← e]; exact hq))]
    exact hh q (List.mem_cons_of_mem _ hq)
/-- What holds at the head of Split's loop. -/
def SpInv (w : World) (l : List Int) (b off cap n : Nat) (a' : Act) (wr : World) : Prop :=
  ∃ (k bX : Nat) (rs : List Nat) (u6 u8 u9 u10 u31 u32 u33 u34 u35 u36 u37 u38 u39 u40 u41 u42 u43 u44 u45 u46 u47 u48 u49 u50 u51 u52 : Value), (k ≤ n ∧ wr.cell? ⟨bX, 0, none⟩ = some (.int .i64 ((k : Int) + 1)) ∧ bX < wr.heap.size ∧ wr.ownsRow w.heap.size 23 2 u6 k (shCells (splitL l k)) ∧ u6.ownBlock ≠ some bX ∧ rs.Nodup ∧ (∀ r ∈ rs, w.heap.size ≤ r ∧ wr.heap[r]? = some (.deferred (some []))) ∧ Below w.heap.size w wr) ∧
    a' = ⟨#[Value.slice (some ⟨b, off, none⟩) l.length cap, Value.int .i64 (n : Int), undef, undef, Value.slice none 0 0, Value.nilIface, u6, Value.pointer (some ⟨bX, 0, none⟩), u8, u9, u10, Value.slice (some ⟨b, off, none⟩) l.length cap, Value.int .i64 (l.length : Int), Value.bool false, undef, Value.slice (some ⟨b, off, none⟩) l.length cap, Value.int .i64 (l.length : Int), Value.bool false, Value.bool false, Value.slice (some ⟨b, off, none⟩) l.length cap, Value.bool false, Value.bool false, Value.bool false, Value.int .i64 (n : Int), Value.bool false, Value.bool false, Value.bool false, Value.int .i64 (n : Int), Value.bool false, Value.bool false, undef, u31, u32, u33, u34, u35, u36, u37, u38, u39, u40, u41, u42, u43, u44, u45, u46, u47, u48, u49, u50, u51, u52, undef], rs.map mark⟩
def boxInt (w : World) (v : Value) : Int := match v with
  | .pointer (some p) => (match w.cell? p with | some x => intOf x | none => 0)
  | _ => 0
theorem boxInt_eq {w : World} {b : Nat} {x : Int} (h : w.cell? ⟨b, 0, none⟩ = some (.int .i64 x)) : boxInt w (.pointer (some ⟨b, 0, none⟩)) = x := by simp [boxInt, h, intOf]
def SpMu (n : Nat) (a' : Act) (wr : World) : Nat := ((n : Int) + 1 - boxInt wr (a'.tmps.getD 7 undef)).toNat
theorem own_mark {w : World} {B e size n r : Nat} {v : Value} {xs : List Value} {o : Option (List Deferred)} (h : w.ownsRow B e size v n xs) (hr : w.heap[r]? = some (.deferred o)) : some r ≠ v.ownBlock := fun hv => by
  rcases h.2 with ⟨rfl, -⟩ | ⟨g, cap, cur, rfl, -, hg, -⟩
  · cases hv
  · cases hv
    rw [hr] at hg
    cases hg
theorem marks_grown {W W1 w3 : World} {B e size n : Nat} {v : Value} {xs : List Value} (ha : Below W.heap.size W W1) (hg : W1.grownBy w3 v.ownBlock) (ow : W.ownsRow B e size v n xs) (D : Nat) (rs : List Nat) {m : Nat → Prop} {k : Nat → Prop} (hK : W.heap[D]? = some (.deferred (some []))) (hr : ∀ r ∈ rs, m r ∧ W.heap[r]? = some (.deferred (some [])) ∧ k r) :
    ∀ r ∈ D :: rs, r < w3.heap.size ∧ w3.heap[r]? = some (.deferred (some [])) := by
  intro r hm
  have h1 : W.heap[r]? = some (.deferred (some [])) := by
    rcases List.mem_cons.1 hm with rfl | h
    · exact hK
    · exact (hr r h).2.1
  have hl := (Array.getElem?_eq_some_iff.1 h1).1
  have h2 : W1.heap[r]? = some (.deferred (some [])) := (ha.block r hl).trans h1
  have h3 := (hg.block r (Array.getElem?_eq_some_iff.1 h2).1 (own_mark ow h1)).trans h2
  exact ⟨(Array.getElem?_eq_some_iff.1 h3).1, h3⟩
set_option maxHeartbeats 4000000 in
theorem split_ok (l : List Int) (v : Value) (n : Nat) (w : World) (hl1 : 1 ≤ l.length) (hl : l.length ≤ 12) (hz : l.all okR = true) (n1 : 1 ≤ n) (n2 : n ≤ 12) (h : IntSl w v l) :
    Calls Tryd.prog 26 #[v, .int .i64 n] w fun e w' => ∃ v', e = .returned (.tuple #[v', .nilIface]) ∧ ShSl w' v' (splitL l n) ∧ Below w.heap.size w w' := by
  have hC := contF_s l v w (by omega) h
  rw [hz, Bool.not_true] at hC
  obtain ⟨a, cap, rfl, h⟩ := h
  obtain ⟨b, off, rfl, hI⟩ := h (by omega)
  clear h
  have hd : decide ((12 : Int) < (l.length : Int)) = false := by rw [decide_eq_false_iff_not]; omega
  have hd2 : ((l.length : Int) == 0) = false := by rw [beq_eq_false_iff_ne]; omega
  have hd3 : decide ((12 : Int) < (n : Int)) = false := by rw [decide_eq_false_iff_not]; omega
  have hd4 : decide ((n : Int) < 1) = false := by rw [decide_eq_false_iff_not]; omega
  have h := Lib.hid hI
  clear hI
  replace hz := Lib.hid hz
  replace hC := Lib.hid hC
  refine (callsIn_wide (n := 5)).1 ?_
  refine callsIn_of_wp_marks Tryd.func26 rfl trivial ?_
  simp only [Tryd.ntmps26, List.size_toArray, List.length_cons, List.length_nil, Nat.reduceAdd, Nat.reduceSub, Array.replicate_succ, Array.replicate_zero, List.push_toArray, List.append_toArray, List.nil_append, List.cons_append]
  refine wpIn_wide.2 ?_
  generalize hQ : bodyPostM _ _ _ _ _ = Q
  replace hQ := Lib.hid hQ
  go_wp2_with fail
  refine hC.out.mono ?_; rintro e w' ⟨rfl, rfl⟩
  go_wp2
  refine wp_loop (SpInv w l b off cap n) (SpMu n) ?start ?round
  case start => exact ⟨0, w.heap.size, [], _, _, _, _, _, _, _, _, _, _, _, _, _, _, _, _, _, _, _, _, _, _, _, _, _, _, ⟨Nat.zero_le _, by simp, by simp, World.ownsRow_nil _ _ _ _, (fun e => by cases e), List.nodup_nil, fun r hr => absurd hr List.not_mem_nil, below_alloc _ _⟩, rfl⟩
  case round =>
    intro a' wr hinv
    obtain ⟨k, bX, rs, hinv⟩ := hinv
    obtain ⟨u6, hinv⟩ := hinv
    obtain ⟨u8, hinv⟩ := hinv
    obtain ⟨u9, hinv⟩ := hinv
    obtain ⟨u10, hinv⟩ := hinv
    obtain ⟨u31, hinv⟩ := hinv
    obtain ⟨u32, hinv⟩ := hinv
    obtain ⟨u33, hinv⟩ := hinv
    obtain ⟨u34, hinv⟩ := hinv
    obtain ⟨u35, hinv⟩ := hinv
    obtain ⟨u36, hinv⟩ := hinv
    obtain ⟨u37, hinv⟩ := hinv
    obtain ⟨u38, hinv⟩ := hinv
    obtain ⟨u39, hinv⟩ := hinv
    obtain ⟨u40, hinv⟩ := hinv
    obtain ⟨u41, hinv⟩ := hinv
    obtain ⟨u42, hinv⟩ := hinv
    obtain ⟨u43, hinv⟩ := hinv
    obtain ⟨u44, hinv⟩ := hinv
    obtain ⟨u45, hinv⟩ := hinv
    obtain ⟨u46, hinv⟩ := hinv
    obtain ⟨u47, hinv⟩ := hinv
    obtain ⟨u48, hinv⟩ := hinv
    obtain ⟨u49, hinv⟩ := hinv
    obtain ⟨u50, hinv⟩ := hinv
    obtain ⟨u51, hinv⟩ := hinv
    obtain ⟨u52, hinv⟩ := hinv
    obtain ⟨⟨hk, hX, hXl, hown, hnb, hnd, hrs, hb⟩, rfl⟩ := hinv
    replace hown := Lib.hid hown
    replace hrs := Lib.hid hrs
    replace hnd := Lib.hid hnd
    replace hnb := Lib.hid hnb
    replace hb := Lib.hid hb
    by_cases hlt : k < n
    · have hle : ((k + 1 : Nat) : Int) ≤ (n : Int) := by omega
      have hbl : b < wr.heap.size := Nat.lt_of_lt_of_le h.out.lt hb.out.size
      have hIw := Lib.hid (h.out.below hb.out)
      go_wp2_with fail
      refine (backward_c _ _ _ _).mono ?_; rintro e w' ⟨rfl, rfl⟩
      go_wp2
      have hSl : ((wr.alloc (.cells #[.int .i64 0] 3)).alloc (.cells #[.slice (some ⟨b, off, none⟩) l.length cap] 24)).cell? ⟨wr.heap.size + 1, 0, none⟩ = some (.slice (some ⟨b, off, none⟩) l.length cap) := by simp
      have hIs := hIw.out.below (balloc (below_alloc wr (.cells #[.int .i64 0] 3)) (.cells #[.slice (some ⟨b, off, none⟩) l.length cap] 24))
      have hB0 : Below wr.heap.size wr ((wr.alloc (.cells #[.int .i64 0] 3)).alloc (.cells #[.slice (some ⟨b, off, none⟩) l.length cap] 24)) := balloc (below_alloc wr _) _
      refine (wpIn_wide (n := 5)).1 ?_
      refine wpIn_rangeFunc_ownG (F := Fence.wide) rfl (by decide) (gf := 123) (lb := #[.pointer (some ⟨wr.heap.size + 1, 0, none⟩)]) rfl trivial (enters_of Tryd.func123 (by kernel_rfl) rfl)
        (back_stops Fence.wide 4 trivial rfl (by decide) (wr.heap.size + 1) wr.heap.size b off cap l hz.out hl hbl _ (by simp) hSl hIs) (fun h k => KB.trans h k) (KB.put (by simp; omega) (by simp)) (Below.refl _ _) (fun _ => rfl)
        (fun pre W => (W.cell? ⟨wr.heap.size, 0, none⟩ = some (.int .i64 (hor ((k : Int) + 1) pre)) ∧ W.frozen? ⟨wr.heap.size, 0, none⟩ = false) ∧ Below wr.heap.size wr W)
        (fun _ _ _ => False)
        (OwnFrom.and (Own.from (fun s A B row hs hg hr => ⟨cell_kept hs.1 hg hr, (frozen_kept hs.1 hg hr).trans hs.2⟩) _) (ownFrom_below (Nat.le_refl _) (by simp; omega)))
        (fun _ _ _ _ _ hs _ _ => hs)
        ⟨⟨by simp [hor], by simp⟩, hB0⟩
        (fun x => { tmps := #[Value.slice (some ⟨b, off, none⟩) l.length cap, Value.int .i64 (n : Int), undef, undef, Value.slice none 0 0, Value.nilIface, u6, Value.pointer (some ⟨bX, 0, none⟩), Value.pointer (some ⟨wr.heap.size, 0, none⟩), u9, Value.int .i64 x.2.1, Value.slice (some ⟨b, off, none⟩) l.length cap, Value.int .i64 (l.length : Int), Value.bool false, undef, Value.slice (some ⟨b, off, none⟩) l.length cap, Value.int .i64 (l.length : Int), Value.bool false, Value.bool false, Value.slice (some ⟨b, off, none⟩) l.length cap, Value.bool false, Value.bool false, Value.bool false, Value.int .i64 (n : Int), Value.bool false, Value.bool false, Value.bool false, Value.int .i64 (n : Int), Value.bool false, Value.bool false, undef, Value.int .i64 ((k : Int) + 1), Value.int .i64 (n : Int), Value.bool true, u34, u35, Value.slice (some ⟨b, off, none⟩) l.length cap, Value.func (.func 123) #[] #[Value.pointer (some ⟨wr.heap.size + 1, 0, none⟩)], Value.int .i64 x.1, Value.int .i64 x.2.1, u40, u41, u42, u43, u44, u45, u46, u47, u48, u49, u50, u51, u52, undef], defers := [] }) ?assign ?body ?done ?stop
      case assign =>
        intro l' x W K hK
        gi_wp2
        exact hK
      case body =>
        rintro l' pre x W ⟨⟨hc, hf⟩, hB⟩ _
        have hXW := (hB.cell (p := ⟨bX, 0, none⟩) hXl).trans hX
        obtain ⟨y0, y1⟩ := hor_bd ((k : Int) + 1) pre
        have hs := hor_snoc ((k : Int) + 1) pre x
        obtain ⟨x1, c, c0, c1⟩ := x
        simp only at hs
        generalize hor ((k : Int) + 1) pre = y at *
        have m1 : 0 ≤ y * ((k : Int) + 1) := Int.mul_nonneg y0 (by omega)
        have m2 : y * ((k : Int) + 1) ≤ 12144 := Int.le_trans (Int.mul_le_mul (show y ≤ 1012 by omega) (show (k : Int) + 1 ≤ 12 by omega) (by omega) (by decide)) (by decide)
        have e1 : IntKind.i64.wrap (y * ((k : Int) + 1)) = y * ((k : Int) + 1) := IntWalk.i64_in _ (by omega)
        have e2 : IntKind.i64.wrap (y * ((k : Int) + 1) + c) = y * ((k : Int) + 1) + c := IntWalk.i64_in _ (by omega)
        have e3 : (y * ((k : Int) + 1) + c).tmod 1013 = (y * ((k : Int) + 1) + c) % 1013 := Int.tmod_eq_emod_of_nonneg (by omega)
        replace hs := Lib.hid hs
        gi_wp2
        exact ⟨(KeepsOthers.setCell _ _ _).from _, ⟨(Below.refl wr.heap.size W).setCell (p := ⟨wr.heap.size, 0, none⟩) (Nat.le_refl _) _, heap_setCell_other W ⟨wr.heap.size, 0, none⟩ (wr.heap.size + 1) _ (by simp)⟩, ⟨by rw [hs.out]; exact World.cell?_setCell_same' _ _ _ (by rw [hc]; rfl), by rw [World.frozen?_setCell]; exact hf⟩, hB.setCell (p := ⟨wr.heap.size, 0, none⟩) (Nat.le_refl _) _⟩
      case stop =>
        rintro D c pre W _ _ h _
        exact h.elim
      case done =>
        rintro D ys W hD rfl ⟨⟨hc, hf⟩, hB⟩ hK
        rw [hor_all _ l hz.out] at hc
        have hXW := (hB.cell (p := ⟨bX, 0, none⟩) hXl).trans hX
        have hXWl : bX < W.heap.size := Nat.lt_of_lt_of_le hXl hB.size
        have ow := Lib.hid (own_below hown.out hB)
        have hBW := Lib.hid (below_seq hb.out hB)
        have hrW := Lib.hid (show ∀ r ∈ rs, w.heap.size ≤ r ∧ W.heap[r]? = some (.deferred (some [])) ∧ r < wr.heap.size from fun r hr => by
          obtain ⟨h1, h2⟩ := hrs.out r hr
          have h3 := (Array.getElem?_eq_some_iff.1 h2).1
          exact ⟨h1, (hB.block r h3).trans h2, h3⟩)
        have hDr : wr.heap.size ≤ D := by simp at hD; omega
        have zw := hb.out.size
        have zW := hB.size
        have hDW := (Array.getElem?_eq_some_iff.1 hK).1
        have hsp := Lib.hid (show splitL l (k + 1) = splitL l k ++ [((k : Int) + 1, val ((k : Int) + 1) l)] by rw [splitL_succ]; simp)
        replace hK := Lib.hid hK
        replace hX := Lib.hid hX
        generalize hV : val ((k : Int) + 1) l = V at *
        clear hB hown hrs hb hbl hIw hSl hIs hB0 hf hV
        dsimp only
        go_wp2_with (first | (at_builtin; refine wpl_append_share rfl _ _ _ rfl (by kernel_rfl) w.heap.size _ (splitL l k) k rfl (ow.out.alloc _) (splitL_len l k) (by omega) (by simp only [World.size_alloc]; omega) W.heap.size ((k : Int) + 1, V) rfl (by go_simp) (by go_simp) ?_; intro v' w3 hown' hgrow hbel hloc; have hX3 := hgrow.cell (a := ⟨bX, 0, none⟩) (v := .int .i64 ((k : Int) + 1)) (((bcell (below_alloc W _)).1 _ _ hXWl).trans hXW) (fun e => hnb.out e.symm); have zg := hgrow.size; simp only [World.size_alloc] at zg; have hr3 := Lib.hid (marks_grown (below_alloc W _) hgrow ow.out D rs hK.out hrW.out); replace hown' := Lib.hid hown'; replace hbel := Lib.hid (hbel w (balloc hBW.out _)); clear hgrow hloc hXW hc) | fail)
        go_wp2
        have hnew : (w3.alloc (.cells #[.int .i64 ((k : Int) + 1 + 1)] 3)).cell? ⟨w3.heap.size, 0, none⟩ = some (.int .i64 ((k : Int) + 1 + 1)) := by simp
        refine ⟨⟨k + 1, w3.heap.size, D :: rs, _, _, _, _, _, _, _, _, _, _, _, _, _, _, _, _, _, _, _, _, _, _, _, _, _, _, ⟨hlt, by rw [hnew]; simp, by simp, ?own, ?nb, List.nodup_cons.2 ⟨fun hm => by have := (hrW.out D hm).2.2; omega, hnd.out⟩, fun r hr => ?mk, balloc hbel.out _⟩, rfl⟩, ?mu⟩
        case own => rw [hsp.out]; exact hown'.out.alloc _
        case nb => exact fun e => by have := (hown'.out.lt _ e).2; omega
        case mk =>
          obtain ⟨q1, q2⟩ := hr3.out r hr
          refine ⟨by rcases List.mem_cons.1 hr with rfl | hm; exact (by omega); exact (hrW.out r hm).1, (Below.heap_alloc w3 _ r q1).trans q2⟩
        case mu =>
          show ((n : Int) + 1 - boxInt _ (.pointer (some ⟨w3.heap.size, 0, none⟩))).toNat < ((n : Int) + 1 - boxInt wr (.pointer (some ⟨bX, 0, none⟩))).toNat
          rw [boxInt_eq hnew, boxInt_eq hX.out]; omega
    · obtain rfl : k = n := by omega
      have hgt : (k : Int) < (k : Int) + 1 := by omega
      go_wp2
      rw [← hQ.out]
      refine leaves_marks (.tuple #[u6, .nilIface]) (fun w' => ShSl w' u6 (splitL l k) ∧ Below w.heap.size w w') (fun w' => by simp [results, Tryd.f26, go_sem]) (fun w' hJ => ⟨_, rfl, hJ.1, hJ.2⟩) rs wr hnd.out (fun r hr => (hrs.out r hr).2) (fun r hr w' hw hJ => ?_) ⟨own_shares hown.out (splitL_len l k).symm, hb.out⟩
      exact ⟨hJ.1.put hw, hJ.2.trans (belowK_b (w := w) (Nat.le_refl _) w' r _ _ (hrs.out r hr).1 hw rfl rfl)⟩
end Go.Proofs.YtahopffpajkfdaaDoor
