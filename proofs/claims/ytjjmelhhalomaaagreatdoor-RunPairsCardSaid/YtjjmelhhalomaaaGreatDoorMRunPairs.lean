/- Texts of this claim, in one. -/
import Derived.Test.YtjjmelhhalomaaaGreatDoorM2RunPairs
import Derived.RangeFuncNested
import Derived.RangeFuncBound
import Derived.RangeFuncCalls
import Derived.RangeFuncLeaves
import Derived.Test.YtjjmelhhalomaaaGreatDoorM4RunBegins
import Derived.Shelf.Abstract
import Derived.Shelf.RegionOpen
import Derived.WalkKit
import Derived.OwnWalkIn
import Derived.TacticsInMore
import Derived.LoopNIn
import Derived.LoopIn
import Derived.Test.YtjjmelhhalomaaaGreatDoorM3RunBegins
namespace Go.Proofs.YtjjmelhhalomaaaGreatDoor
open Go.RowKit
set_option maxRecDepth 100000
set_option linter.unusedVariables false
theorem index_onec : ∀ (w r : List UInt8) (c : UInt8), (∀ b ∈ w, b ≠ c) → Lib.index (w ++ c :: r) [c] = w.length
  | [], r, c, _ => by simp [Lib.index]
  | b :: w, r, c, h => by
    have ih := index_onec w r c (fun x hx => h x (List.mem_cons_of_mem _ hx))
    have hb := h b List.mem_cons_self
    rw [List.cons_append, Lib.index, if_neg (by simp [List.isPrefixOf]; exact fun e => hb e.symm), ih, if_neg (by simp)]
    simp
theorem index_noc : ∀ (w : List UInt8) (c : UInt8), (∀ b ∈ w, b ≠ c) → Lib.index w [c] = -1
  | [], c, _ => rfl
  | b :: w, c, h => by
    have ih := index_noc w c (fun x hx => h x (List.mem_cons_of_mem _ hx))
    have hb := h b List.mem_cons_self
    rw [Lib.index, if_neg (by simp [List.isPrefixOf]; exact fun e => hb e.symm), ih]
    rfl
theorem cutW_sp (w r : List UInt8) (h : ∀ b ∈ w, b ≠ 32) : cutW (w ++ 32 :: r) = (w, r, true) := by
  unfold cutW Lib.cut
  rw [index_onec w r 32 h, if_pos (by omega)]
  simp
theorem cutW_no (w : List UInt8) (h : ∀ b ∈ w, b ≠ 32) : cutW w = (w, [], false) := by
  unfold cutW Lib.cut
  rw [index_noc w 32 h, if_neg (by omega)]
theorem dec_dig (n : Nat) : ∀ b ∈ Lib.decDigits n, b ≠ 10 ∧ b ≠ 32 ∧ b ≠ 98 := fun b hb => by
  obtain ⟨d, rfl⟩ := dec_all n b hb
  have : ∀ d : Fin 10, UInt8.ofNat (48 + d.val) ≠ 10 ∧ UInt8.ofNat (48 + d.val) ≠ 32 ∧ UInt8.ofNat (48 + d.val) ≠ 98 := by decide +kernel
  exact this d
theorem trimL_nl (w : List UInt8) : trimL (w ++ [10]) = w := by
  unfold trimL Lib.trimSuffix
  rw [if_pos (by simp [Lib.hasSuffix])]
  simp
theorem trimL_no (w : List UInt8) (h : ∀ b ∈ w, b ≠ 10) : trimL w = w := by
  unfold trimL Lib.trimSuffix
  rw [if_neg]
  intro hs
  simp [Lib.hasSuffix] at hs
  exact h 10 (hs.subset (by simp)) rfl
theorem cutGo_word (c : UInt8) (l : List UInt8) : ∀ (w cur : List UInt8), (∀ b ∈ w, b ≠ c) → cutGo c cur (w ++ c :: l) = (cur ++ w) :: cutGo c [] l
  | [], cur, _ => by simp [cutGo]
  | b :: w, cur, hw => by
    rw [List.cons_append, cutGo, if_neg (hw b List.mem_cons_self), cutGo_word c l w (cur ++ [b]) (fun x hx => hw x (List.mem_cons_of_mem _ hx))]
    simp
theorem cutGo_last (c : UInt8) : ∀ (w cur : List UInt8), (∀ b ∈ w, b ≠ c) → cutGo c cur w = [cur ++ w]
  | [], cur, _ => by simp [cutGo]
  | b :: w, cur, hw => by
    rw [cutGo, if_neg (hw b List.mem_cons_self), cutGo_last c w (cur ++ [b]) (fun x hx => hw x (List.mem_cons_of_mem _ hx))]
    simp
theorem takeN_two (n m : Nat) (hn : n < 10000) (hm : m < 10000) : takeN 2 (Lib.decDigits n ++ 32 :: Lib.decDigits m) true = some ([n, m], [], false) := by
  have e1 : takeN 1 (Lib.decDigits n ++ 32 :: Lib.decDigits m) true = some ([n], Lib.decDigits m, true) := by
    show (if true = true then (match numF (cutW (Lib.decDigits n ++ 32 :: Lib.decDigits m)).1 with | none => none | some k => some ([] ++ [k], (cutW (Lib.decDigits n ++ 32 :: Lib.decDigits m)).2.1, (cutW (Lib.decDigits n ++ 32 :: Lib.decDigits m)).2.2)) else none) = _
    rw [if_pos rfl, cutW_sp _ _ (fun b hb => (dec_dig n b hb).2.1)]
    simp only
    rw [numF_dec n hn]
    rfl
  show (match takeN 1 (Lib.decDigits n ++ 32 :: Lib.decDigits m) true with | none => none | some (ns, r1, m1) => if m1 then (match numF (cutW r1).1 with | none => none | some k => some (ns ++ [k], (cutW r1).2.1, (cutW r1).2.2)) else none) = _
  rw [e1]
  simp only [if_true]
  rw [cutW_no _ (fun b hb => (dec_dig m b hb).2.1)]
  simp only
  rw [numF_dec m hm]
  rfl
theorem takeN_one (n : Nat) (hn : n < 10000) : takeN 1 (Lib.decDigits n) true = some ([n], [], false) := by
  show (if true = true then (match numF (cutW (Lib.decDigits n)).1 with | none => none | some k => some ([] ++ [k], (cutW (Lib.decDigits n)).2.1, (cutW (Lib.decDigits n)).2.2)) else none) = _
  rw [if_pos rfl, cutW_no _ (fun b hb => (dec_dig n b hb).2.1)]
  simp only
  rw [numF_dec n hn]
  rfl
theorem line_pair (n m : Nat) (hn : n < 10000) (hm : m < 10000) : lineF ([112, 97, 105, 114] ++ 32 :: (Lib.decDigits n ++ 32 :: Lib.decDigits m)) = A5 [n, m] [] := by
  unfold lineF
  rw [cutW_sp _ _ (by decide)]
  simp only
  rw [if_neg (by decide), if_neg (by decide), if_neg (by decide), if_neg (by decide), if_pos trivial]
  unfold deedF
  rw [takeN_two n m hn hm]
  rfl
theorem line_order (n : Nat) (hn : n < 10000) : lineF ([111, 114, 100, 101, 114] ++ 32 :: Lib.decDigits n) = A3 [n] [] := by
  unfold lineF
  rw [cutW_sp _ _ (by decide)]
  simp only
  rw [if_neg (by decide), if_neg (by decide), if_pos trivial]
  unfold deedF
  rw [takeN_one n hn]
  rfl
/-- The session of RunPairs. -/
def pairT (n m : Nat) : List UInt8 :=
  ([112, 97, 105, 114] ++ 32 :: (Lib.decDigits n ++ 32 :: Lib.decDigits m)) ++ 10 :: (([112, 97, 105, 114] ++ 32 :: (Lib.decDigits (n * m) ++ 32 :: Lib.decDigits 1)) ++ 10 :: (([112, 97, 105, 114] ++ 32 :: (Lib.decDigits m ++ 32 :: Lib.decDigits n)) ++ 10 :: (([111, 114, 100, 101, 114] ++ 32 :: Lib.decDigits n) ++ [10])))
theorem no10 {w : List UInt8} {n m : Nat} (hw : ∀ b ∈ w, b ≠ 10) : ∀ b ∈ w ++ 32 :: (Lib.decDigits n ++ 32 :: Lib.decDigits m), b ≠ 10 := fun b hb => by
  simp only [List.mem_append, List.mem_cons] at hb
  rcases hb with hb | rfl | hb | rfl | hb
  · exact hw b hb
  · decide
  · exact (dec_dig n b hb).1
  · decide
  · exact (dec_dig m b hb).1
theorem pair_outs (n m : Nat) (hn : n < 10000) (hm : m < 10000) (hnm : n * m < 10000) :
    outsF (linesL (pairT n m)) = A5 [n, m] [] ++ 10 :: (A5 [n * m, 1] [] ++ 10 :: (A5 [m, n] [] ++ 10 :: (A3 [n] [] ++ [10]))) := by
  unfold pairT
  have h5 : ∀ b ∈ ([112, 97, 105, 114] : List UInt8), b ≠ 10 := by decide
  have h6 : ∀ b ∈ [111, 114, 100, 101, 114] ++ 32 :: Lib.decDigits n, b ≠ 10 := fun b hb => by
    simp only [List.mem_append, List.mem_cons] at hb
    rcases hb with hb | rfl | hb
    · have : ∀ b ∈ ([111, 114, 100, 101, 114] : List UInt8), b ≠ 10 := by decide
      exact this b (by simpa using hb)
    · decide
    · exact (dec_dig n b hb).1
  rw [linesL_cons _ _ (no10 h5), linesL_cons _ _ (no10 h5), linesL_cons _ _ (no10 h5), linesL_cons _ [] h6]
  unfold outsF
  simp only [List.map_cons]
  rw [trimL_nl, trimL_nl, trimL_nl, trimL_nl, line_pair n m hn hm, line_pair (n * m) 1 hnm (by decide), line_pair m n hm hn, line_order n hn]
  simp [linesL, linesGo]
theorem joinN_two (a b : Nat) : joinN [a, b] = Lib.decDigits a ++ 32 :: Lib.decDigits b := by simp [joinN, Lib.join, List.intercalate]
theorem joinN_one (a : Nat) : joinN [a] = Lib.decDigits a := by simp [joinN, Lib.join, List.intercalate]
theorem joinN_no (a b : Nat) : ∀ x ∈ joinN [a, b], x ≠ 10 ∧ x ≠ 98 := fun x hx => by
  rw [joinN_two] at hx
  simp only [List.mem_append, List.mem_cons] at hx
  rcases hx with hx | rfl | hx
  · exact ⟨(dec_dig a x hx).1, (dec_dig a x hx).2.2⟩
  · decide
  · exact ⟨(dec_dig b x hx).1, (dec_dig b x hx).2.2⟩
theorem A5_no (ns : List Nat) (t : List UInt8) : ∀ x ∈ A5 ns t, x ≠ 10 ∧ x ≠ 98 := joinN_no _ _
theorem A5_bad (ns : List Nat) (t : List UInt8) : A5 ns t ≠ [98, 97, 100] := fun e => (A5_no ns t 98 (by rw [e]; simp)).2 rfl
theorem A5_one (n m : Nat) : A5 [n * m, 1] [] = A5 [n, m] [] := by
  show joinN [(fz (zp (((n * m % 1013 : Nat) : Int) * ((1 % 1013 : Nat) : Int))).re).toNat, (fz (zp (((n * m % 1013 : Nat) : Int) * ((1 % 1013 : Nat) : Int))).im).toNat] = joinN [(fz (zp (((n % 1013 : Nat) : Int) * ((m % 1013 : Nat) : Int))).re).toNat, (fz (zp (((n % 1013 : Nat) : Int) * ((m % 1013 : Nat) : Int))).im).toNat]
  rw [zp_eq (n := ((n * m % 1013 : Nat) : Int) * ((1 % 1013 : Nat) : Int)) (m := ((n % 1013 : Nat) : Int) * ((m % 1013 : Nat) : Int))]
  have e1 : ((n * m % 1013 : Nat) : Int) * ((1 % 1013 : Nat) : Int) = ((n * m % 1013 * (1 % 1013) : Nat) : Int) := by rw [Int.natCast_mul]
  have e2 : ((n % 1013 : Nat) : Int) * ((m % 1013 : Nat) : Int) = (((n % 1013) * (m % 1013) : Nat) : Int) := by rw [Int.natCast_mul]
  have e3 : (n * m % 1013 * (1 % 1013)) % 1013 = ((n % 1013) * (m % 1013)) % 1013 := by
    rw [← Nat.mul_mod]
    simp
  rw [e1, e2]
  omega
theorem A5_swap (n m : Nat) : A5 [m, n] [] = A5 [n, m] [] := by
  show joinN [(fz (zp (((m % 1013 : Nat) : Int) * ((n % 1013 : Nat) : Int))).re).toNat, (fz (zp (((m % 1013 : Nat) : Int) * ((n % 1013 : Nat) : Int))).im).toNat] = joinN [(fz (zp (((n % 1013 : Nat) : Int) * ((m % 1013 : Nat) : Int))).re).toNat, (fz (zp (((n % 1013 : Nat) : Int) * ((m % 1013 : Nat) : Int))).im).toNat]
  rw [Int.mul_comm]
theorem sq_far_n (a : Int) : (sq a).far = decide (a % 4052 = 0) := by
  cases h : (sq a).far
  · rw [eq_comm, decide_eq_false_iff_not]; exact fun e => by rw [sq_far.2 e] at h; cases h
  · rw [eq_comm, decide_eq_true_iff]; exact sq_far.1 h
theorem ord_small (n : Nat) (h0 : 1 ≤ n) (h1 : n ≤ 90) : ordOf (4 * (n : Int)) = 1013 := by
  unfold ordOf
  rw [sq_far_n, sq_far_n, sq_far_n, sq_far_n]
  rw [if_neg (by rw [decide_eq_true_iff]; omega), if_neg (by rw [decide_eq_true_iff]; omega), if_neg (by rw [decide_eq_true_iff]; omega), if_pos (by rw [decide_eq_true_iff]; omega)]
theorem A3_small (n : Nat) (h0 : 1 ≤ n) (h1 : n ≤ 90) : A3 [n] [] = [49, 48, 49, 51] := by
  show joinN [(ordOf (4 * (n : Int))).toNat] = _
  rw [ord_small n h0 h1, joinN_one]
  show Lib.decDigits 1013 = _
  rw [dec_big 1013 (by decide), dec_big (1013 / 10) (by decide), dec_big (1013 / 10 / 10) (by decide), dec_small (1013 / 10 / 10 / 10) (by decide)]
  rfl
/-- The pieces of the answer to the session of RunPairs. -/
theorem pair_cut (n m : Nat) (h0 : 1 ≤ n) (h1 : n ≤ 90) (h2 : m ≤ 90) :
    cutGo 10 [] (outsF (linesL (pairT n m))) = [A5 [n, m] [], A5 [n, m] [], A5 [n, m] [], [49, 48, 49, 51], []] := by
  have hnm : n * m ≤ 90 * 90 := Nat.mul_le_mul h1 h2
  rw [pair_outs n m (by omega) (by omega) (by omega), A5_one, A5_swap n m, A3_small n h0 h1]
  have hA : ∀ b ∈ A5 [n, m] [], b ≠ 10 := fun b hb => (A5_no _ _ b hb).1
  rw [cutGo_word 10 _ _ [] hA, cutGo_word 10 _ _ [] hA, cutGo_word 10 _ _ [] hA, cutGo_word 10 [] [49, 48, 49, 51] [] (by decide)]
  rfl
end Go.Proofs.YtjjmelhhalomaaaGreatDoor
namespace Go.Proofs.YtjjmelhhalomaaaGreatDoor
open Go Go.RowKit
/-- An iterator that hands out xs, all of them, and steps by St on the heap between two rounds; Kp: what a round keeps. -/
def Goes {α : Type} (F : Fence) (n : Nat) (P : Program) (g : Nat) (lb : Array Value) (encs : α → Array Value) (Kp St : World → World → Prop) (xs : List α) (w : World) : Prop :=
  ∀ (l : Nat) (J : List α → World → Prop) (W : World), Below w.heap.size w W → (∀ pre A B, J pre A → St A B → J pre B) →
    (∀ pre x W1, J pre W1 → (pre ++ [x]) <+: xs → YieldAt F (n - 1) P l (encs x) W1 fun e W' => e = .returned (.bool true) ∧ J (pre ++ [x]) W' ∧ Kp W1 W') →
    J [] W → CallsIn F n P g (#[.func (.yield l) #[] #[]] ++ lb) W fun e W' => (∃ v, e = .returned v) ∧ J xs W'
/-- A round's end where no round leaves. -/
def goesPost {α : Type} (B : Nat) (Kp : World → World → Prop) (I : List α → World → Prop) (xs : List α) (W : World) : Exit → Act → World → Prop
  | .normal, _, W' => KeepsFrom B W W' ∧ Kp W W' ∧ I xs W'
  | _, _, _ => False
theorem wpIn_goes {F : Fence} {n : Nat} {P : Program} {α : Type} {g : Operand} {ps : Array Tmp} {assign body : Code} {Q : Exit → Act → World → Prop} {a : Act} {w : World}
    (hro : F.round = none) (h1 : 1 ≤ n) {gf : Nat} {lb : Array Value} (hg : a.eval g = .func (.func gf) #[] lb) (hFg : F.fn gf) (eg : ∀ args w, (callFunc gf args).run P w = .ok (.enter gf args) w)
    {encs : α → Array Value} {Kp St : World → World → Prop} {xs : List α} {w0 : World} (hseq : Goes F (n - 1) P gf lb encs Kp St xs w0)
    (hKt : ∀ A B C, Kp A B → Kp B C → Kp A C) (hKb : ∀ (W : World) (l : Nat) (o o' : Obj), w.heap.size ≤ l → W.heap[l]? = some o → o.isCells = false → o.isWalk = false → Kp W (W.putObj l o')) (hb0 : Below w0.heap.size w0 w) (hps : ∀ x, (encs x).size = ps.size)
    (I : List α → World → Prop) (hI : OwnFrom w.heap.size I) (hIS : ∀ pre A B, I pre A → St A B → I pre B) (hSt : ∀ (A B : World) (k : Nat) (o : Obj), St A B → A.heap[k]? = some o → o.isCells = false → B.heap[k]? = some o) (h0 : I [] w) (a₁ : α → Act)
    (hassign : ∀ (l : Nat) (x : α) (W : World) (K : Act → World → Prop), K (a₁ x) W →
      assign.wpIn (F.inRound l) (n - 1 - 1) P (Exit.then K (fun _ _ _ => False)) { tmps := (ps.zip (encs x)).foldl (fun t (p, v) => t.setIfInBounds p v) a.tmps, defers := [] } W)
    (hbody : ∀ (l : Nat) (pre : List α) (x : α) (W : World), I pre W → (pre ++ [x]) <+: xs → body.wpIn (F.inRound l) (n - 1 - 1) P (goesPost w.heap.size Kp I (pre ++ [x]) W) (a₁ x) W)
    (hdone : ∀ (D : Nat) (W : World), w.heap.size ≤ D → I xs W → W.heap[D]? = some (.deferred (some [])) → Q .normal { a with defers := { target := .collected D, args := #[] } :: a.defers } W) :
    (Code.rangeFunc g ps assign body).wpIn F n P Q a w := by
  refine wpIn_rangeFunc fun fn hfn => ?_
  rw [hro]
  -- the record of the loop, by its state
  let rec' : LoopState → Loop := fun st => { state := st, pending := none, fn, tmps := a.tmps, params := ps, assign, body, defers := w.heap.size }
  obtain ⟨rc, hrc⟩ : ∃ rc, rc = rec' := ⟨_, rfl⟩
  have rst : ∀ st, (rc st).state = st := fun st => by rw [hrc]
  have rpe : ∀ st, (rc st).pending = none := fun st => by rw [hrc]
  have rset : ∀ st st', { rc st with state := st' } = rc st' := fun st st' => by rw [hrc]
  have rset2 : ∀ st st', { rc st with state := st', pending := none } = rc st' := fun st st' => by rw [hrc]
  have rfn : ∀ st, (rc st).fn = fn ∧ (rc st).tmps = a.tmps ∧ (rc st).params = ps ∧ (rc st).assign = assign ∧ (rc st).body = body := fun st => by rw [hrc]; exact ⟨rfl, rfl, rfl, rfl, rfl⟩
  obtain ⟨S, hS⟩ : ∃ S, w.heap.size = S := ⟨_, rfl⟩
  obtain ⟨W1, hW1⟩ : ∃ W1, (w.alloc (.deferred (some []))).alloc (.loop (rc .ready)) = W1 := ⟨_, rfl⟩
  -- both blocks of book-keeping, in a world
  let Bk : LoopState → World → Prop := fun st W => W.heap[S + 1]? = some (.loop (rc st)) ∧ W.heap[S]? = some (.deferred (some []))
  have hBk1 : Bk .ready W1 := by
    refine ⟨?_, ?_⟩
    · rw [← hW1, ← hS]; have := World.alloc_heap_new (w.alloc (.deferred (some []))) (.loop (rc .ready)); rwa [World.size_alloc] at this
    · rw [← hW1, ← hS]; exact (Below.heap_alloc _ _ _ (by simp)).trans (World.alloc_heap_new w _)
  have hb1 : Below w0.heap.size w0 W1 := by
    rw [← hW1]; exact hb0.trans ((((Below.refl _ w).alloc (Nat.le_refl _) _).alloc (by simp) _).mono hb0.size)
  have put : ∀ st st' W, Bk st W → Bk st' (W.putObj (S + 1) (.loop (rc st'))) := fun st st' W h =>
    ⟨World.putObj_heap_same (Array.getElem?_eq_some_iff.1 h.1).1, (World.putObj_heap_other (by omega)).trans h.2⟩
  refine ⟨S + 1, [{ target := .collected S, args := #[] }], W1, { target := .fn (.func gf) lb, args := #[.func (.yield (S + 1)) #[] #[]] }, W1, gf, #[.func (.yield (S + 1)) #[] #[]] ++ lb, W1, ?_, ?_, ?_, ?_, fun _ => h1, ?_⟩
  · rw [← hW1, hrc, ← hS]; exact run_enterLoop_outer _ _ _ _ _
  · simp only [resolve, hg]
    simp [go_sem]
  · intro f' hf'; simp [Target.leads] at hf'; subst hf'; exact hFg
  · simp [invoke, go_sem, eg]
  · refine (hseq (S + 1) (fun pre W => I pre W ∧ Bk .ready W) W1 hb1 (fun pre A B h hst => ⟨hIS pre A B h.1 hst, hSt A B _ _ hst h.2.1 rfl, hSt A B _ _ hst h.2.2 rfl⟩) ?_ ⟨by rw [← hW1]; exact hI.alloc _ (hI.alloc _ h0), hBk1⟩).mono ?_
    · rintro pre x W ⟨hi, hb⟩ hpre
      have hy := run_yield (P := P) (args := encs x) hb.1 (by rw [(rfn _).2.2.1]; exact hps x)
      obtain ⟨e1, e2, e3, e4, e5⟩ := rfn .ready
      rw [e1, e2, e3, e4, e5] at hy
      refine ⟨fn, _, assign, body, hy, roundIn_of_wpIn hfn (hassign _ x W _ ⟨_, run_beginRound hb.1 (rst _), ?_⟩)⟩
      rw [rset]
      have hb2 := put _ .busy W hb
      have hk2 : Kp W (W.putObj (S + 1) (.loop (rc .busy))) := hKb _ _ _ _ (by omega) hb.1 rfl rfl
      refine wpIn_mono (hbody _ pre x _ (hI.putObj _ hi (by omega) hb.1 rfl) hpre) ?_
      rintro e a3 W3 hp
      cases e with
      | normal =>
        obtain ⟨hk3, hkp3, hi3⟩ := hp
        have hb3 : Bk .busy W3 := ⟨hk3.same _ _ (by omega) hb2.1 rfl, hk3.same _ _ (by omega) hb2.2 rfl⟩
        have he := run_endRound (P := P) none hb3.1
        simp only [Option.isNone_none, if_true, rset2] at he
        exact ⟨_, _, he, rfl, ⟨hI.putObj _ hi3 (by omega) hb3.1 rfl, put _ .ready W3 hb3⟩, hKt _ _ _ (hKt _ _ _ hk2 hkp3) (hKb _ _ _ _ (by omega) hb3.1 rfl rfl)⟩
      | ret => exact hp.elim
      | exit id => exact hp.elim
      | goto t => exact hp.elim
      | panic ch => exact hp.elim
      | outgrown => exact hp.elim
    · rintro e W2 ⟨⟨v, rfl⟩, hi, hb⟩
      have he := run_endLoop (P := P) hb.1 (by rw [rst]; simp)
      rw [rset, rpe] at he
      refine ⟨none, _, he, ?_⟩
      have := hdone S _ (by omega) (hI.putObj (.loop (rc .exhausted)) hi (by omega) hb.1 rfl) ((World.putObj_heap_other (by omega)).trans hb.2)
      exact this
end Go.Proofs.YtjjmelhhalomaaaGreatDoor
namespace Go.Proofs.YtjjmelhhalomaaaGreatDoor
open Go.RowKit Go.Shelf
set_option maxRecDepth 100000
set_option linter.unusedVariables false
set_option linter.unusedSimpArgs false
attribute [local go_sem] Oper.semAt_some
theorem nl_split : ∀ r : List UInt8, (∀ b ∈ r, b ≠ 10) ∨ ∃ a c, r = a ++ 10 :: c ∧ ∀ b ∈ a, b ≠ 10
  | [] => .inl fun b h => absurd h List.not_mem_nil
  | x :: r => by
    by_cases hx : x = 10
    · exact .inr ⟨[], r, by rw [hx]; rfl, fun b h => absurd h List.not_mem_nil⟩
    · rcases nl_split r with h | ⟨a, c, e, h⟩
      · exact .inl fun b hb => by
          rcases List.mem_cons.1 hb with rfl | hb
          · exact hx
          · exact h b hb
      · exact .inr ⟨x :: a, c, by rw [e]; rfl, fun b hb => by
          rcases List.mem_cons.1 hb with rfl | hb
          · exact hx
          · exact h b hb⟩
theorem index_pre : ∀ (a c : List UInt8), (∀ b ∈ a, b ≠ 10) → Lib.indexByte (a ++ 10 :: c) 10 = (a.length : Int)
  | [], c, _ => by simp [Lib.indexByte]
  | x :: a, c, h => by
    have ih := index_pre a c (fun b hb => h b (List.mem_cons_of_mem _ hb))
    have hx := h x List.mem_cons_self
    rw [List.cons_append, Lib.indexByte, if_neg (by simpa using hx), ih, if_neg (by simp <;> omega), List.length_cons]
    rfl
theorem index_no : ∀ (a : List UInt8), (∀ b ∈ a, b ≠ 10) → Lib.indexByte a 10 = -1
  | [], _ => rfl
  | x :: a, h => by
    have ih := index_no a (fun b hb => h b (List.mem_cons_of_mem _ hb))
    have hx := h x List.mem_cons_self
    rw [Lib.indexByte, if_neg (by simpa using hx), ih]
    exact if_pos rfl
theorem sindex_c (s : List UInt8) (w : World) : Calls Tryz.prog 58 #[.string (bS s), .int .u8 10] w fun e w' => e = .returned (.int .i64 (Lib.indexByte s 10)) ∧ w' = w := by
  have hI := Tryz.stringslite_IndexByte (bS s) 10 w
  rw [bS_list] at hI
  replace hI := Lib.hid hI
  go_enter Tryz.func58, Tryz.ntmps58
  go_wp2_with fail
  refine hI.out.mono ?_; rintro e w' ⟨rfl, rfl⟩
  go_wp2
  go_ret
  exact ⟨rfl, rfl⟩
theorem lines_c (s : ByteArray) (w : World) :
    Calls Tryz.prog 28 #[.string s] w fun e w' => e = .returned (.func (.func 57) #[] #[.pointer (some ⟨w.heap.size, 0, none⟩)]) ∧ w' = w.alloc (.cells #[.string s] 9) := by
  go_enter Tryz.func28, Tryz.ntmps28
  go_wp2
  go_ret
  exact ⟨rfl, rfl⟩
theorem bS_extract (l m : List UInt8) (i j : Nat) (h : (l.drop i).take (j - i) = m) : (bS l).extract i j = bS m := by
  have : ((bS l).extract i j).data = (bS m).data := by
    apply Array.ext'
    rw [Lib.extract_data, bS_list, bS_list]; exact h
  exact ByteArray.ext this
/-- A step of the iterator: what is left is stored. -/
def LnSt (Bs : Nat) (A B : World) : Prop := ∃ u : Value, B = A.setCell ⟨Bs, 0, none⟩ u ∨ B = (A.setCell ⟨Bs, 0, none⟩ u).drew
/-- What a round keeps: the box of what is left. -/
def LnKp (Bs : Nat) (W W' : World) : Prop := W'.heap[Bs]? = W.heap[Bs]?
set_option maxHeartbeats 2000000 in
theorem lines1_in (l Bs : Nat) (t : List UInt8) (ht : t.length ≤ 9223372036854775807) (J : List (List UInt8) → World → Prop) (hJ : ∀ pre A B, J pre A → LnSt Bs A B → J pre B)
    (hY : ∀ pre x W1, J pre W1 → (pre ++ [x]) <+: linesL t → YieldAt Fence.wide 3 Tryz.prog l #[.string (bS x)] W1 fun e W' => e = .returned (.bool true) ∧ J (pre ++ [x]) W' ∧ LnKp Bs W1 W')
    (W : World) (hBs : W.cell? ⟨Bs, 0, none⟩ = some (.string (bS t))) (hBf : W.frozen? ⟨Bs, 0, none⟩ = false) (h0 : J [] W) :
    CallsIn Fence.wide 4 Tryz.prog 57 #[.func (.yield l) #[] #[], .pointer (some ⟨Bs, 0, none⟩)] W fun e W' => (∃ v, e = .returned v) ∧ J (linesL t) W' := by
  refine callsIn_of_wp Tryz.func57 rfl trivial ?_ rfl
  simp only [Tryz.ntmps57, List.size_toArray, List.length_cons, List.length_nil, Nat.reduceAdd, Nat.reduceSub, Array.replicate_succ, Array.replicate_zero, List.push_toArray, List.append_toArray, List.nil_append, List.cons_append]
  gi_wp2
  gi_loopw [] (fun wr => ∃ (pre : List (List UInt8)) (r : List UInt8), linesL t = pre ++ linesL r ∧ r.length ≤ t.length ∧ wr.cell? ⟨Bs, 0, none⟩ = some (.string (bS r)) ∧ wr.frozen? ⟨Bs, 0, none⟩ = false ∧ J pre wr)
    (fun wr => match wr.cell? ⟨Bs, 0, none⟩ with | some (.string s) => s.size | _ => 0)
  case atStart => exact ⟨[], t, rfl, Nat.le_refl _, hBs, hBf, h0⟩
  case round =>
    obtain ⟨pre, r, hr, hl, hc, hf, hj⟩ := hrel
    by_cases hr0 : r = []
    · subst hr0
      have hz : (bS []).size = 0 := rfl
      have e : linesL t = pre := by rw [hr]; exact List.append_nil _
      have hj' : J (linesL t) wr := by rw [e]; exact hj
      clear hr e hj
      gi_wp2
      go_end0
      exact ⟨⟨_, rfl⟩, hj'⟩
    · have hp : 0 < (bS r).size := by rw [bS_size]; exact List.length_pos_iff.2 hr0
      have hz2 : (bS r).size = r.length := bS_size r
      replace hz2 := Lib.hid hz2
      rcases nl_split r with hn | ⟨a, c, he, ha⟩
      · have hx : Lib.indexByte r 10 = -1 := index_no r hn
        have hI := sindex_c r wr
        rw [hx] at hI
        have hl1 : linesL r = [r] := linesL_last r hn hr0
        rw [hl1] at hr
        replace hI := Lib.hid hI
        clear hl1 hx hn hr0
        have hj2 := hJ pre wr (wr.setCell ⟨Bs, 0, none⟩ (.string ⟨#[]⟩)) hj ⟨_, .inl rfl⟩
        obtain ⟨fn, tmps, assign, body, hy, hR⟩ := hY pre r _ hj2 (by rw [hr]; exact List.prefix_refl _)
        replace hr := Lib.hid hr
        replace hR := Lib.hid hR
        gi_wp2_with (refine ⟨trivial, ?_⟩; gi_at_call 58; refine (callsIn_wide.2 hI.out).mono ?_; rintro e w' ⟨rfl, rfl⟩)
        refine hR.out.mono ?_
        rintro e W3 ⟨rfl, hJ3, hk3⟩
        have hc3 : W3.cell? ⟨Bs, 0, none⟩ = some (.string (bS [])) := (World.cell?_of_block (a := ⟨Bs, 0, none⟩) hk3).trans (World.cell?_setCell_same _ _ _ hc)
        have hf3 : W3.frozen? ⟨Bs, 0, none⟩ = false := (World.frozen?_of_block (a := ⟨Bs, 0, none⟩) hk3).trans (by simpa using hf)
        have hp' := Lib.hid hp
        have hc' := Lib.hid hc
        clear hp hc hf hy hR hI hj hj2
        gi_wp2
        go_roundw
        case rel => exact ⟨pre ++ [r], [], by rw [hr.out]; simp [linesL, linesGo], Nat.zero_le _, hc3, hf3, hJ3⟩
        case measure => rw [hc3, hc'.out]; exact hp'.out
      · subst he
        have hx : Lib.indexByte (a ++ 10 :: c) 10 = (a.length : Int) := index_pre a c ha
        have hI := sindex_c (a ++ 10 :: c) wr
        rw [hx] at hI
        have hl1 : linesL (a ++ 10 :: c) = (a ++ [10]) :: linesL c := linesL_cons a c ha
        rw [hl1] at hr
        replace hI := Lib.hid hI
        have hs1 : (bS (a ++ 10 :: c)).extract 0 (a.length + 1) = bS (a ++ [10]) := bS_extract _ _ _ _ (by rw [List.drop_zero, Nat.sub_zero, show a ++ 10 :: c = (a ++ [10]) ++ c by simp]; exact List.take_left' (by simp))
        have hs2 : (bS (a ++ 10 :: c)).extract (a.length + 1) (bS (a ++ 10 :: c)).size = bS c := bS_extract _ _ _ _ (by rw [show a ++ 10 :: c = (a ++ [10]) ++ c by simp, List.drop_left' (by simp)]; exact List.take_of_length_le (by rw [bS_size]; simp; omega))
        have hla : a.length + 1 ≤ (bS (a ++ 10 :: c)).size := by rw [bS_size]; simp
        have hlb : (bS (a ++ 10 :: c)).size ≤ 9223372036854775807 := by rw [bS_size]; omega
        clear hl1 hx hr0
        generalize hR0 : bS (a ++ 10 :: c) = R at *
        replace hR0 := Lib.hid hR0
        gi_wp2_with (refine ⟨trivial, ?_⟩; gi_at_call 58; refine (callsIn_wide.2 hI.out).mono ?_; rintro e w' ⟨rfl, rfl⟩)
        gi_region
        have hj2 := hJ pre w' (w'.setCell ⟨Bs, 0, none⟩ (.string (bS c))).drew hj ⟨_, .inr rfl⟩
        obtain ⟨fn, tmps, assign, body, hy, hR⟩ := hY pre (a ++ [10]) _ hj2 (by rw [hr]; exact ⟨linesL c, by simp⟩)
        replace hr := Lib.hid hr
        replace hR := Lib.hid hR
        gi_wp2
        refine hR.out.mono ?_
        rintro e W3 ⟨rfl, hJ3, hk3⟩
        have hc3 : W3.cell? ⟨Bs, 0, none⟩ = some (.string (bS c)) := (World.cell?_of_block (a := ⟨Bs, 0, none⟩) hk3).trans (World.cell?_setCell_same _ _ _ hc)
        have hf3 : W3.frozen? ⟨Bs, 0, none⟩ = false := (World.frozen?_of_block (a := ⟨Bs, 0, none⟩) hk3).trans (by rw [frozen_drew_own]; simpa using hf)
        have hms : Hid ((bS c).size < R.size) := Lib.hid (by rw [hz2.out, bS_size]; simp; omega)
        have hc' := Lib.hid hc
        clear hp hc hf hy hR hI hj hj2 hs1 hs2 hla hlb
        gi_wp2
        go_roundw
        case rel => exact ⟨pre ++ [a ++ [10]], c, by rw [hr.out]; simp, by simp at hl; omega, hc3, hf3, hJ3⟩
        case measure => rw [hc3, hc'.out]; exact hms.out
theorem lines_goes (Bs : Nat) (t : List UInt8) (ht : t.length ≤ 9223372036854775807) (w : World) (hB : Bs < w.heap.size) (hc : w.cell? ⟨Bs, 0, none⟩ = some (.string (bS t))) (hf : w.frozen? ⟨Bs, 0, none⟩ = false) :
    Goes Fence.wide 4 Tryz.prog 57 #[.pointer (some ⟨Bs, 0, none⟩)] (fun x : List UInt8 => #[Value.string (bS x)]) (LnKp Bs) (LnSt Bs) (linesL t) w := fun l J W hW hJ hY h0 =>
  lines1_in l Bs t ht J hJ hY W ((hW.cell (p := ⟨Bs, 0, none⟩) hB).trans hc) ((hW.frozen (p := ⟨Bs, 0, none⟩) hB).trans hf) h0
end Go.Proofs.YtjjmelhhalomaaaGreatDoor
namespace Go.Proofs.YtjjmelhhalomaaaGreatDoor
open Go.RowKit
set_option maxRecDepth 100000
set_option linter.unusedVariables false
set_option linter.unusedSimpArgs false
theorem but_freeze {S : Nat → Prop} {a w : World} (h : But S a w) {p : Addr} (hp : S p.block) (n : Nat) : But S a (w.freeze p n) := by
  refine h.trans ?_
  unfold World.freeze
  split
  · exact But.refl _ _
  · refine ⟨rfl, rfl, rfl, by simp, fun k hk hs => ?_⟩
    simp only [Array.getElem?_modify]
    rw [if_neg]
    intro e
    exact hs (by rw [← e]; exact hp)
theorem cells_byte : Tryz.prog.cellsOf 5 = 1 := by kernel_rfl
set_option maxHeartbeats 2000000 in
theorem bstring_y (B1 b : Nat) (v : Value) (l : List UInt8) (w : World) (h : BdV w B1 b v (Lib.byteCells l)) (h0 : l ≠ []) (hl9 : l.length ≤ 1000000000) :
    Calls Tryz.prog 32 #[.pointer (some ⟨b, 0, none⟩)] w fun e w' => e = .returned (.string (bS l)) ∧ But (fun k => v.ownBlock = some k) w w' := by
  obtain ⟨p, hbk, -, hown⟩ := h
  have hl0 : l.length ≠ 0 := by simpa using h0
  rw [Lib.byteCells_length] at hown
  obtain ⟨g, cap, cur, rfl, hbg, hg, hnc, hcm, hcs, htake⟩ : ∃ g cap cur, v = .slice (some ⟨g, 0, none⟩) l.length cap ∧ B1 ≤ g ∧ w.heap[g]? = some (.cells cur 5 (0, 0)) ∧ l.length ≤ cap ∧ cap ≤ maxLen ∧ cur.size = cap * 1 ∧ cur.toList.take (l.length * 1) = Lib.byteCells l := by
    rcases hown.2 with ⟨_, hz⟩ | ⟨g, cap, cur, hv, r⟩
    · exact absurd hz hl0
    · exact ⟨g, cap, cur, hv, r⟩
  have c1 : w.drew.cell? ⟨b, 1, none⟩ = some (.slice (some ⟨g, 0, none⟩) l.length cap) := by
    have : w.drew.heap[b]? = some (.cells #[p, .slice (some ⟨g, 0, none⟩) l.length cap] 64 (0, 0)) := hbk
    rw [Lib.cell_of_heap this]; rfl
  have hSD : (Builtin.unsafeSliceData_ #[62] 108 #[.slice (some ⟨g, 0, none⟩) l.length cap]).run Tryz.prog w.drew = .ok (.pointer (some ⟨g, 0, none⟩)) w.drew := Lib.run_unsafeSliceData_row _ _ _ _ _ _ (by omega)
  have hUS : (Builtin.unsafeString_ #[108, 3] 9 #[.pointer (some ⟨g, 0, none⟩), .int .i64 l.length]).run Tryz.prog w.drew = .ok (.string (bS l)) (w.drew.freeze ⟨g, 0, none⟩ l.length) := by
    refine Lib.run_unsafeString_row w.drew 108 3 9 5 Tryz.underlying108 cells_byte g cur.size (by have hg' : w.drew.heap[g]? = some (.cells cur 5 (0, 0)) := hg; simp [World.shape?, hg']) l h0 (by omega) (by omega) ?_
    intro j x hx
    exact hown.cells (g := g) rfl j (.int .u8 x.toNat) (by simp [Lib.byteCells, hx])
  have hbt : But (fun k => (Value.slice (some ⟨g, 0, none⟩) l.length cap).ownBlock = some k) w (w.drew.freeze ⟨g, 0, none⟩ l.length) := but_freeze (S := fun k => (Value.slice (some ⟨g, 0, none⟩) l.length cap).ownBlock = some k) (But.of_below (Below.refl _ _).drew) (p := ⟨g, 0, none⟩) (show (Value.slice (some ⟨g, 0, none⟩) l.length cap).ownBlock = some g from rfl) _
  replace hbt := Lib.hid hbt
  go_enter Tryz.func32, Tryz.ntmps32
  go_wp2
  go_region
  all_goals
    go_wp2
    go_ret
    exact ⟨rfl, hbt.out⟩
set_option maxHeartbeats 2000000 in
theorem bstring_0 (B1 b : Nat) (w : World) (h : BdV w B1 b (.slice none 0 0) []) :
    Calls Tryz.prog 32 #[.pointer (some ⟨b, 0, none⟩)] w fun e w' => e = .returned (.string (bS [])) ∧ But (fun k => False) w w' := by
  obtain ⟨p, hbk, -, -⟩ := h
  have hUS := fun (W : World) (q : Option Addr) => Lib.run_unsafeString_none (P := Tryz.prog) W 108 3 9 q
  have c1 : w.drew.cell? ⟨b, 1, none⟩ = some (.slice none 0 0) := by
    have : w.drew.heap[b]? = some (.cells #[p, .slice none 0 0] 64 (0, 0)) := hbk
    rw [Lib.cell_of_heap this]; rfl
  have hSD : (Builtin.unsafeSliceData_ #[62] 108 #[.slice none 0 0]).run Tryz.prog w.drew = .ok (.pointer none) w.drew := rfl
  go_enter Tryz.func32, Tryz.ntmps32
  go_wp2
  go_region
  all_goals
    go_wp2
    go_ret
    exact ⟨rfl, But.of_below (Below.refl _ _).drew⟩
/-- The lines of a text. -/
theorem linesL_facts : ∀ (n : Nat) (t : List UInt8), t.length ≤ n → (linesL t).flatten = t ∧ (linesL t).length ≤ t.length ∧ ∀ l ∈ linesL t, l.length ≤ t.length
  | 0, t, h => by
    obtain rfl : t = [] := List.eq_nil_of_length_eq_zero (by omega)
    exact ⟨rfl, Nat.le_refl _, fun l hl => by simp [linesL, linesGo] at hl⟩
  | n + 1, t, h => by
    rcases nl_split t with hn | ⟨a, c, rfl, ha⟩
    · by_cases h0 : t = []
      · subst h0
        exact ⟨rfl, Nat.le_refl _, fun l hl => by simp [linesL, linesGo] at hl⟩
      · rw [linesL_last t hn h0]
        have : 1 ≤ t.length := List.length_pos_iff.mpr h0
        exact ⟨by simp, by simp; omega, fun l hl => by obtain rfl := List.mem_singleton.1 hl; exact Nat.le_refl _⟩
    · rw [linesL_cons a c ha]
      have hl : (a ++ 10 :: c).length = a.length + c.length + 1 := by simp; omega
      obtain ⟨h1, h2, h3⟩ := linesL_facts n c (by omega)
      refine ⟨by simp [h1], by simp; omega, fun l hl' => ?_⟩
      rcases List.mem_cons.1 hl' with rfl | hl'
      · simp
      · have := h3 l hl'; omega
end Go.Proofs.YtjjmelhhalomaaaGreatDoor
namespace Go.Proofs.YtjjmelhhalomaaaGreatDoor
open Go.RowKit Go.Shelf
set_option maxRecDepth 100000
set_option linter.unusedVariables false
set_option linter.unusedSimpArgs false
attribute [local go_sem] Oper.semAt_some
/-- Between two rounds: the builder with so many answers. -/
def RnI (w : World) (pre : List (List UInt8)) (W : World) : Prop :=
  ∃ v, BdV W (w.heap.size + 2) w.heap.size v (Lib.byteCells (outsF pre)) ∧ (pre = [] → v = .slice none 0 0) ∧ w.heap.size + 1 < W.heap.size ∧ Below w.heap.size w W
theorem RnI.own (w : World) (B : Nat) (hB : w.heap.size ≤ B) : OwnFrom B (RnI w) := fun pre A W row hI hg hr => by
  obtain ⟨v, hb, hv, hl, h5⟩ := hI
  refine ⟨v, hb.keep (fun k hk => hg.block k (hb.blk k hk) (fun e => ?_)), hv, Nat.lt_of_lt_of_le hl hg.size, h5.grown hg h5.size (fun k e => Nat.le_trans hB (hr k e).1)⟩
  obtain ⟨o, h1, h2⟩ := hb.cells k hk
  obtain ⟨-, o', h3, h4⟩ := hr k e.symm
  rw [h1] at h3; cases h3; rw [h2] at h4; cases h4
theorem RnI.step (w : World) : ∀ pre A W, RnI w pre A → LnSt (w.heap.size + 1) A W → RnI w pre W := fun pre A W hI hst => by
  obtain ⟨v, hb, hv, hl, h5⟩ := hI
  have hne : ∀ k, k = w.heap.size ∨ v.ownBlock = some k → k ≠ w.heap.size + 1 := fun k hk e => by
    obtain ⟨p, -, -, ho⟩ := hb
    rcases hk with rfl | hk
    · omega
    · have := (ho.lt k hk).1; omega
  have key : ∀ u, RnI w pre (A.setCell ⟨w.heap.size + 1, 0, none⟩ u) := fun u =>
    ⟨v, hb.keep (fun k hk => heap_setCell_other A ⟨w.heap.size + 1, 0, none⟩ k u (hne k hk)), hv, by simpa using hl, h5.setCell (p := ⟨w.heap.size + 1, 0, none⟩) (by show w.heap.size ≤ w.heap.size + 1; omega) u⟩
  obtain ⟨u, rfl | rfl⟩ := hst
  · exact key u
  · obtain ⟨v, hb, hv, hl, h5⟩ := key u
    exact ⟨v, hb.below (Below.refl _ _).drew, hv, hl, h5.drew⟩
theorem strCells_bS (l : List UInt8) : Lib.strCells (bS l) = Lib.byteCells l := by unfold Lib.strCells Lib.byteCells; rw [bS_list]
theorem byteCells_app (a b : List UInt8) : Lib.byteCells a ++ Lib.byteCells b = Lib.byteCells (a ++ b) := by unfold Lib.byteCells; rw [List.map_append]
theorem trim_c (l : List UInt8) (hl : l.length ≤ 3000) (w : World) : Calls Tryz.prog 31 #[.string (bS l), .string (bS [10])] w fun e w' => e = .returned (.string (bS (trimL l))) ∧ w' = w := by
  refine (Tryz.strings_TrimSuffix (bS l) (bS [10]) w (by rw [bS_size]; omega)).mono ?_
  rintro e w' ⟨rfl, rfl⟩
  refine ⟨?_, rfl⟩
  rw [bS_list, bS_list]; rfl
set_option maxHeartbeats 16000000 in
theorem run_c (t : List UInt8) (w : World) (R : RunAt w) (ht : t.length ≤ 3000) :
    Calls Tryz.prog 7 #[.string (bS t)] w fun e w' => e = .returned (.string (bS (outsF (linesL t)))) ∧ Below w.heap.size w w' := by
  obtain ⟨hfl, hln, hll⟩ := linesL_facts _ t (Nat.le_refl _)
  have hz0 := bS_size t
  have hz1 : ¬ ((3000 : Int) < ((bS t).size : Int)) := by rw [hz0]; omega
  have R' := Lib.hid R
  clear R
  refine (callsIn_wide (n := 6)).1 ?_
  refine callsIn_of_wp_marks Tryz.func7 rfl trivial ?_
  simp only [Tryz.ntmps7, List.size_toArray, List.length_cons, List.length_nil, Nat.reduceAdd, Nat.reduceSub, Array.replicate_succ, Array.replicate_zero, List.push_toArray, List.append_toArray, List.nil_append, List.cons_append]
  refine wpIn_wide.2 ?_
  generalize hQq : bodyPostM _ _ _ _ _ = QQ
  replace hQq := Lib.hid hQq
  have g1 : decide ((bS t).size > (3000 : Nat)) = false := by rw [decide_eq_false_iff_not, hz0]; omega
  have g2 : decide (((bS t).size : Int) > 3000) = false := by rw [decide_eq_false_iff_not]; exact hz1
  go_wp2_with fail
  refine (lines_c _ _).mono ?_; rintro e w' ⟨rfl, rfl⟩
  go_wp2_with fail
  have hsB : ((w.alloc (.cells #[.pointer none, .slice none 0 0] 64)).alloc (.cells #[.string (bS t)] 9)).cell? ⟨w.heap.size + 1, 0, none⟩ = some (.string (bS t)) := by
    rw [World.cell?_alloc_at _ _ _ _ (by simp)]; rfl
  have hsF : ((w.alloc (.cells #[.pointer none, .slice none 0 0] 64)).alloc (.cells #[.string (bS t)] 9)).frozen? ⟨w.heap.size + 1, 0, none⟩ = false := by simp
  have hI0 : RnI w [] ((w.alloc (.cells #[.pointer none, .slice none 0 0] 64)).alloc (.cells #[.string (bS t)] 9)) := by
    refine ⟨.slice none 0 0, ⟨.pointer none, ?_, .inl rfl, World.ownsRow_nil _ _ _ _⟩, fun _ => rfl, by simp, balloc (below_alloc w _) _⟩
    exact (heap_alloc_old _ _ (by simp)).trans (heap_alloc_new w _)
  clear g1 g2
  refine (wpIn_wide (n := 5)).1 ?_
  refine wpIn_goes (F := Fence.wide) rfl (by decide) (gf := 57) (lb := #[.pointer (some ⟨w.heap.size + 1, 0, none⟩)]) rfl trivial (enters_of Tryz.func57 (by kernel_rfl) rfl)
    (lines_goes (w.heap.size + 1) t (by omega) _ (by simp) hsB hsF) (fun A B C h k => Eq.trans k h) (fun W l o o' hl _ _ _ => World.putObj_heap_other (by simp at hl; omega)) (Below.refl _ _) (fun _ => rfl)
    (RnI w) (RnI.own w _ (by simp; omega)) (RnI.step w)
    (fun A B k o hst hk ho => by
      obtain ⟨u, rfl | rfl⟩ := hst
      · exact (KeepsOthers.setCell A _ u).same k o hk ho
      · exact (KeepsOthers.setCell A _ u).same k o hk ho)
    hI0 ?act ?assign ?body ?done
  case assign =>
    intro l x W K hK
    replace hK := Lib.hid hK
    gi_wp2
    exact hK.out
  case body =>
    rintro l pre x W ⟨v, hb, hv, hl, h5⟩ hpre
    clear hsB hsF hI0
    have hpl : pre.length + 1 ≤ t.length ∧ x.length ≤ t.length := by
      obtain ⟨tt, htt⟩ := hpre
      have h1 := congrArg List.length htt
      simp only [List.length_append, List.length_cons, List.length_nil] at h1
      refine ⟨by omega, hll x ?_⟩
      rw [← htt]; simp
    have hol := outsF_len pre
    have htl := trimL_len x
    have hTr := Lib.hid (fun W1 => trim_c x (by omega) W1)
    have hAn := Lib.hid (fun W1 R1 => lineA_c (trimL x) W1 R1 (by omega))
    have hal := lineF_len (trimL x)
    obtain ⟨an, han⟩ : ∃ an, lineF (trimL x) ++ [10] = an := ⟨_, rfl⟩
    have hanl : an.length ≤ 101 := by rw [← han]; simp; omega
    have hsn : outsF (pre ++ [x]) = outsF pre ++ an := by rw [outsF_snoc, han]
    have hcat : bS (lineF (trimL x)) ++ bS [10] = bS an := by rw [bS_app, han]
    have hlv : (Lib.byteCells (outsF pre)).length = (outsF pre).length := Lib.byteCells_length _
    generalize lineF (trimL x) = ax at *
    generalize trimL x = tx at *
    have hcat' : bS ax ++ (⟨#[10]⟩ : ByteArray) = bS an := hcat
    have hax : (bS ax).size = ax.length := bS_size ax
    have hlim : ¬ (9223372036854775807 < (bS ax).size + 1) := by omega
    replace hsn := Lib.hid hsn
    replace hb := Lib.hid hb
    replace h5 := Lib.hid h5
    replace hv := Lib.hid hv
    clear hpre han hcat
    have hn1 : 1 ≤ 5 - 1 - 1 := by decide
    gi_wp2_with (refine ⟨trivial, ?_⟩; gi_at_call 31; refine (CallsIn.inRound l (callsIn_wide.2 (hTr.out _))).mono ?_; rintro e w' ⟨rfl, hww⟩; obtain rfl := hww.symm)
    clear hTr
    gi_wp2_with (refine ⟨trivial, ?_⟩; gi_at_call 30; refine (CallsIn.inRound l (callsIn_wide.2 (hAn.out _ (R'.out.below h5.out)))).mono ?_; rintro e w2 ⟨rfl, hb2⟩)
    have hB2 := Lib.hid (hb.out.below hb2)
    have hz2 := hb2.size
    have hWr := Lib.hid (bwrite2 (w.heap.size + 2) w.heap.size v _ (bS an) w2 hB2.out (by omega) (by rw [hlv, bS_size]; omega) (by omega))
    replace hb2 := Lib.hid hb2
    clear hAn
    gi_wp2_with (refine ⟨trivial, ?_⟩; gi_at_call 29; refine (CallsIn.inRound l (callsIn_wide.2 hWr.out)).mono ?_; rintro e w4 ⟨rfl, v4, hb4, hbt4⟩)
    have hnS : ∀ k, (k = w.heap.size ∨ v.ownBlock = some k) → k ≠ w.heap.size + 1 := fun k hk e => by
      obtain ⟨p, -, -, ho⟩ := hb.out
      rcases hk with rfl | hk
      · omega
      · have := (ho.lt k hk).1; omega
    have hno : ∀ k, k < W.heap.size → ¬ (k = w.heap.size ∨ v.ownBlock = some k) → w4.heap[k]? = W.heap[k]? := fun k hk hn => (hbt4.block k (by omega) hn).trans (hb2.out.block k hk)
    refine ⟨⟨Nat.le_trans hz2 hbt4.size, fun j o _ hj ho => ?_⟩, hno _ hl (fun h => hnS _ h rfl), v4, ?_, fun h => absurd h (by simp), Nat.lt_of_lt_of_le hl (Nat.le_trans hz2 hbt4.size), ?_⟩
    · have hjl := (Array.getElem?_eq_some_iff.1 hj).1
      refine (hno j hjl (fun hin => ?_)).trans hj
      obtain ⟨o', h6, h7⟩ := hb.out.cells j hin
      rw [hj] at h6; cases h6; rw [ho] at h7; cases h7
    · rw [hsn.out, ← byteCells_app, ← strCells_bS an]; exact hb4
    · refine (below_seq h5.out hb2.out).trans (hbt4.below (by have := h5.out.size; omega) (fun k hk => ?_))
      obtain ⟨p, -, -, ho⟩ := hb.out
      rcases hk with rfl | hk
      · exact Nat.le_refl _
      · have := (ho.lt k hk).1; omega
  case done =>
    rintro D W hD ⟨v, hb, hv, hl, h5⟩ hK
    clear hsB hsF hI0
    have hDl : w.heap.size + 1 < D := by simp at hD; omega
    have hnD : ¬ v.ownBlock = some D := fun e => by
      obtain ⟨o, h1, h2⟩ := hb.cells D (.inr e)
      rw [hK] at h1; cases h1; cases h2
    have hlen := outsF_len (linesL t)
    have hSt : Calls Tryz.prog 32 #[.pointer (some ⟨w.heap.size, 0, none⟩)] W fun e w' => e = .returned (.string (bS (outsF (linesL t)))) ∧ But (fun k => v.ownBlock = some k) W w' := by
      by_cases h0 : linesL t = []
      · obtain rfl := hv h0
        rw [h0] at hb ⊢
        exact (bstring_0 _ _ W hb).mono fun e w' ⟨h1, h2⟩ => ⟨h1, h2.mono (fun k _ h => h.elim)⟩
      · refine bstring_y (w.heap.size + 2) w.heap.size v _ W hb ?_ (by omega)
        obtain ⟨a, l, e⟩ := List.exists_cons_of_ne_nil h0
        rw [e]; unfold outsF; simp
    replace hSt := Lib.hid hSt
    replace hK := Lib.hid hK
    replace h5 := Lib.hid h5
    have hvB : ∀ k, v.ownBlock = some k → w.heap.size + 2 ≤ k := fun k hk => by
      obtain ⟨p, -, -, ho⟩ := hb
      exact (ho.lt k hk).1
    have hDW : D < W.heap.size := (Array.getElem?_eq_some_iff.1 hK.out).1
    clear hb hv
    dsimp only
    go_wp2_with fail
    refine hSt.out.mono ?_; rintro e X ⟨rfl, hbt⟩
    have hKF : X.heap[D]? = some (.deferred (some [])) := (hbt.block D hDW hnD).trans hK.out
    have hBX : Below w.heap.size w X := h5.out.trans (hbt.below (by have := h5.out.size; omega) (fun k hk => by have := hvB k hk; omega))
    replace hKF := Lib.hid hKF
    replace hBX := Lib.hid hBX
    clear hbt hSt hK
    go_wp2
    rw [← hQq.out]
    refine ⟨by simp, .inl ⟨_, _, rfl, run_takeDeferred hKF.out, ?_⟩⟩
    refine ⟨.string (bS (outsF (linesL t))), by simp [results, Tryz.f7, go_sem], rfl, ?_⟩
    exact hBX.out.trans (belowK_b (w := w) (Nat.le_refl _) X D _ _ (by omega) hKF.out rfl rfl)
theorem bS_of (s : ByteArray) : s = bS s.data.toList := by unfold bS; simp
theorem run_long (s : ByteArray) (w : World) (h : 3000 < s.size) :
    Calls Tryz.prog 7 #[.string s] w fun e w' => e = .returned (.string (bS [116, 111, 111, 32, 108, 111, 110, 103, 10])) ∧ Below w.heap.size w w' := by
  have g1 : (3000 : Int) < (s.size : Int) := by omega
  go_enter Tryz.func7, Tryz.ntmps7
  go_wp2
  go_ret
  exact ⟨rfl, Below.refl _ _⟩
end Go.Proofs.YtjjmelhhalomaaaGreatDoor
namespace Go.Proofs.YtjjmelhhalomaaaGreatDoor
open Go.RowKit
set_option maxRecDepth 100000
set_option linter.unusedVariables false
set_option linter.unusedSimpArgs false
attribute [local go_sem ↓] Go.wp_at_zero Go.wp_at_succ
def AscAt (w : World) : Prop := Lib.TabIs Tryz.prog w "strings.asciiSpace" .u8 Lib.asciiSpaceTab
theorem AscAt.below {w w' : World} (h : AscAt w) (hb : Below w.heap.size w w') : AscAt w' := Joins.tab_stays (g := 4) (by kernel_rfl) h hb (Nat.le_refl _)
theorem lfields_c (G K : List Nat) (r s : Nat) (ws : List Nat) (hws : recW G K r s = ws) (w : World) (hA : AscAt w) (hl : (recB G K r s).length ≤ 20000) :
    Calls Tryz.prog 129 #[.string (bS (recB G K r s))] w fun e w' => ∃ b, b = w.heap.size ∧ e = .returned (.slice (some ⟨b, 0, none⟩) ws.length ws.length) ∧ WdsAt w' b 0 ws ∧ Below w.heap.size w w' := by
  refine (Tryz.strings_Fields (bS (recB G K r s)) w (by rw [bS_size]; omega) (fun j b hj => recB_ascii G K r s b (by rw [bS_list] at hj; exact List.mem_of_getElem? hj)) hA).mono ?_
  rintro e w' ⟨rfl, rfl⟩
  refine ⟨w.heap.size, rfl, ?_, ⟨by simp, fun i hi => ?_⟩, below_alloc _ _⟩
  · rw [bS_list, recB_fields, hws, List.length_map]
  · rw [cell_of_row _ w.heap.size _ _ _ (0, 0) (heap_alloc_new w _), bS_list, recB_fields, hws]
    simp only [Nat.zero_add, List.getElem?_toArray, List.map_map]
    rw [List.getElem?_map, List.getElem?_eq_getElem hi]
    rfl
theorem DlAt.setR {w : World} {b : Nat} {g n : Value} {r : Sp} {s : Int} (h : DlAt w b g n r s) (R : Sp) : DlAt (((w.setCell ⟨b, 2, none⟩ (.int .i64 R.x)).setCell ⟨b, 3, none⟩ (.int .i64 R.y)).setCell ⟨b, 4, none⟩ (.bool R.far)) b g n R s := by
  have c : ∀ (w : World) (q o : Nat) (v : Value), o ≠ q → (w.setCell ⟨b, q, none⟩ v).cell? ⟨b, o, none⟩ = w.cell? ⟨b, o, none⟩ := fun w q o v ho => World.cell?_setCell_other _ _ _ _ (fun e => ho (congrArg Addr.off e).symm)
  refine ⟨?_, ?_, ?_, ?_, ?_, ?_, by simpa using h.f0, by simpa using h.f1, by simpa using h.f2, by simpa using h.f3, by simpa using h.f4, by simpa using h.f5, by simpa [World.setCell] using h.lt⟩
  · rw [c _ 4 0 _ (by decide), c _ 3 0 _ (by decide), c _ 2 0 _ (by decide)]; exact h.c0
  · rw [c _ 4 1 _ (by decide), c _ 3 1 _ (by decide), c _ 2 1 _ (by decide)]; exact h.c1
  · rw [c _ 4 2 _ (by decide), c _ 3 2 _ (by decide)]; exact World.cell?_setCell_same _ _ _ h.c2
  · rw [c _ 4 3 _ (by decide)]; exact World.cell?_setCell_same _ _ _ ((c _ 2 3 _ (by decide)).trans h.c3)
  · exact World.cell?_setCell_same _ _ _ (((c _ 3 4 _ (by decide)).trans (c _ 2 4 _ (by decide))).trans h.c4)
  · rw [c _ 4 5 _ (by decide), c _ 3 5 _ (by decide), c _ 2 5 _ (by decide)]; exact h.c5
theorem DlAt.setS {w : World} {b : Nat} {g n : Value} {r : Sp} {s : Int} (h : DlAt w b g n r s) (S : Int) : DlAt (w.setCell ⟨b, 5, none⟩ (.int .i64 S)) b g n r S := by
  have c : ∀ o, o ≠ 5 → (w.setCell ⟨b, 5, none⟩ (.int .i64 S)).cell? ⟨b, o, none⟩ = w.cell? ⟨b, o, none⟩ := fun o ho => World.cell?_setCell_other _ _ _ _ (fun e => ho (congrArg Addr.off e).symm)
  exact ⟨(c 0 (by decide)).trans h.c0, (c 1 (by decide)).trans h.c1, (c 2 (by decide)).trans h.c2, (c 3 (by decide)).trans h.c3, (c 4 (by decide)).trans h.c4, World.cell?_setCell_same _ _ _ h.c5, by simpa using h.f0, by simpa using h.f1, by simpa using h.f2, by simpa using h.f3, by simpa using h.f4, by simpa using h.f5, by simpa [World.setCell] using h.lt⟩
theorem DlAt.alloc1 {w : World} {b : Nat} {g n : Value} {r : Sp} {s : Int} (h : DlAt w b g n r s) (o : Obj) : DlAt (w.alloc o) b g n r s := h.below (below_alloc w o)
set_option maxHeartbeats 16000000 in
theorem ldeal_c (gl : List Nat) (M : List Int) (RS : Sp) (s : Nat) (w : World) (hF : FarAt w) (hA : AscAt w) (hg : gl.length ≤ 1000) (hgb : ∀ g ∈ gl, g < 1000000) (hm : M.length ≤ 12) (oR : Ok RS) (hs : s < 1013) :
    Calls Tryz.prog 99 #[.string (bS (recD gl M RS s))] w fun e w' => ∃ v0 v1, e = .returned (.tuple #[dlV v0 v1 RS (s : Int), .nilIface]) ∧ w'.ownsRow w.heap.size 3 1 v0 gl.length ((gl.map fun n : Nat => (n : Int)).map (Value.int .i64)) ∧ w'.ownsRow w.heap.size 28 3 v1 M.length (spCells (M.map qS)) ∧ Below w.heap.size w w' := by
  obtain ⟨K, hK⟩ : ∃ K, (M.map fun m => codeS (qS m)) = K := ⟨_, rfl⟩
  obtain ⟨rc, hrc⟩ : ∃ rc, codeS RS = rc := ⟨_, rfl⟩
  have hKl : K.length = M.length := by rw [← hK, List.length_map]
  have hKb : ∀ n ∈ K, n < 200000 := fun n hn => by
    rw [← hK, List.mem_map] at hn
    obtain ⟨m, -, rfl⟩ := hn
    exact codeS_lt (qS_ok m)
  have hrl := codeS_lt oR
  rw [hrc] at hrl
  have hbl := (recB_len gl K rc s hgb (fun n hn => by have := hKb n hn; omega) hg (by omega) (by omega) (by omega)).2
  obtain ⟨ws, hws⟩ : ∃ ws, recW gl K rc s = ws := ⟨_, rfl⟩
  have hFd := Lib.hid (fun (w1 : World) (hb : Below w.heap.size w w1) => lfields_c gl K rc s ws hws w1 (hA.below hb) hbl)
  have hw2 : Hid (ws = gl.length :: (gl ++ (K.length :: (K ++ [rc, s])))) := Lib.hid (by rw [← hws]; unfold recW; simp)
  unfold recD
  rw [hK, hrc]
  obtain ⟨RB, hRB⟩ : ∃ RB, bS (recB gl K rc s) = RB := ⟨_, rfl⟩
  rw [hRB] at hFd ⊢
  replace hFd := Lib.hid hFd
  replace hK := Lib.hid hK
  replace hrc := Lib.hid hrc
  replace hKl := Lib.hid hKl
  replace hKb := Lib.hid hKb
  replace hgb := Lib.hid hgb
  have hF' := Lib.hid hF
  clear hA hbl hws hRB hF
  go_enter Tryz.func99, Tryz.ntmps99
  go_wp2_with fail
  refine (hFd.out _ (below_alloc _ _)).mono ?_; rintro e w1 ⟨b, hb, rfl, hW, hb1⟩
  rw [World.size_alloc] at hb
  have hB1 := Lib.hid (below_seq (below_alloc w _) hb1)
  have hz1 := hb1.size
  rw [World.size_alloc] at hz1
  have hRES := Lib.hid ((DlAt.fresh w 53).below hb1)
  replace hW := Lib.hid hW
  replace hb := Lib.hid hb
  clear hb1 hFd
  go_wp2_with fail
  have z0 : b < w1.heap.size := hW.out.lt
  have hR0 : RdAt ((w1.alloc (.cells #[.slice (some ⟨b, 0, none⟩) ws.length ws.length] 165)).alloc (.cells #[.slice none 0 0, .slice none 0 0, .int .i64 0, .int .i64 0, .bool false, .int .i64 0] 53)) (w1.heap.size + 1) w1.heap.size ws := by
    refine ⟨by simp; omega, by omega, by go_simp, some ⟨b, 0, none⟩, by go_simp, fun _ => ⟨b, 0, rfl, ⟨by simp; omega, fun i hi => ?_⟩, by omega, by omega⟩⟩
    exact ((bcell (balloc (below_alloc w1 _) _)).1 _ _ z0).trans (hW.out.c i hi)
  have hD0 : DlAt ((w1.alloc (.cells #[.slice (some ⟨b, 0, none⟩) ws.length ws.length] 165)).alloc (.cells #[.slice none 0 0, .slice none 0 0, .int .i64 0, .int .i64 0, .bool false, .int .i64 0] 53)) (w1.heap.size + 1) (.slice none 0 0) (.slice none 0 0) ⟨0, 0, false⟩ 0 := by
    have := DlAt.fresh (w1.alloc (.cells #[.slice (some ⟨b, 0, none⟩) ws.length ws.length] 165)) 53
    rw [World.size_alloc] at this
    exact this
  have hB2 : Below w1.heap.size w1 ((w1.alloc (.cells #[.slice (some ⟨b, 0, none⟩) ws.length ws.length] 165)).alloc (.cells #[.slice none 0 0, .slice none 0 0, .int .i64 0, .int .i64 0, .bool false, .int .i64 0] 53)) := balloc (below_alloc w1 _) _
  have hz2 : ((w1.alloc (.cells #[.slice (some ⟨b, 0, none⟩) ws.length ws.length] 165)).alloc (.cells #[.slice none 0 0, .slice none 0 0, .int .i64 0, .int .i64 0, .bool false, .int .i64 0] 53)).heap.size = w1.heap.size + 2 := by simp
  generalize (w1.alloc (.cells #[.slice (some ⟨b, 0, none⟩) ws.length ws.length] 165)).alloc (.cells #[.slice none 0 0, .slice none 0 0, .int .i64 0, .int .i64 0, .bool false, .int .i64 0] 53) = w2 at *
  have hres2 := hRES.out.below hB2
  have hB2' := Lib.hid (below_seq hB1.out hB2)
  rw [hw2.out] at hR0
  obtain ⟨rb, hrb⟩ : ∃ rb, rb = w1.heap.size := ⟨_, rfl⟩
  obtain ⟨dp, hdp⟩ : ∃ dp, dp = w1.heap.size + 1 := ⟨_, rfl⟩
  rw [← hdp] at hR0 hD0 ⊢
  rw [← hrb] at hR0 ⊢
  have q1 : rb < dp := by omega
  have q2 : dp < w2.heap.size := by omega
  have q3 : w.heap.size < rb := by omega
  have hS1 := Lib.hid (lsome_c dp rb gl (K.length :: (K ++ [rc, s])) w2 hR0 (Nat.le_of_lt q2) hg (fun n hn => by have := hgb.out n hn; omega) (by simp; have := hKl.out; omega))
  replace hD0 := Lib.hid hD0
  replace hres2 := Lib.hid hres2
  clear hRES hB1 hB2 hW hR0 hz2 hz1 z0 hb hw2 hrb hdp
  refine hS1.out.mono ?_; rintro e w3 ⟨v0, rfl, hv0, hR3, hbt3⟩
  obtain ⟨a0, c0, rfl⟩ := own_slB hv0
  have hD3 := hD0.out.keep hbt3.size (hbt3.block dp q2 (fun e => by omega))
  have hres3 := hres2.out.keep hbt3.size (hbt3.block _ (by omega) (fun e => by omega))
  have hB3 : Below w.heap.size w w3 := hB2'.out.trans (hbt3.below (by have := hB2'.out.size; omega) (fun k hk => by omega))
  have q4 : dp < w3.heap.size := hD3.lt
  have hv0l := fun k hk => (hv0.lt k hk).1
  clear hS1 hbt3 hD0 hres2 hB2'
  -- the slice of those that go is stored
  have hD4 := hD3.setg (.slice a0 gl.length c0)
  have hR4 := hR3.below ((Below.refl dp w3).setCell (p := ⟨dp, 0, none⟩) (Nat.le_refl _) (.slice a0 gl.length c0))
  have hv4 := own_keep hv0 (w' := w3.setCell ⟨dp, 0, none⟩ (.slice a0 gl.length c0)) (fun k hk => heap_setCell_other w3 ⟨dp, 0, none⟩ k _ (by have := hv0l k hk; show k ≠ dp; omega))
  have hres4 := hres3.keep (w' := w3.setCell ⟨dp, 0, none⟩ (.slice a0 gl.length c0)) (by simp) (heap_setCell_other w3 ⟨dp, 0, none⟩ _ _ (by show w.heap.size ≠ dp; omega))
  have hB4 : Below w.heap.size w (w3.setCell ⟨dp, 0, none⟩ (.slice a0 gl.length c0)) := hB3.setCell (p := ⟨dp, 0, none⟩) (by show w.heap.size ≤ dp; omega) _
  have hz4 : (w3.setCell ⟨dp, 0, none⟩ (.slice a0 gl.length c0)).heap.size = w3.heap.size := by simp
  obtain ⟨d0, d1, d2, d3, d4, d5, g0, g1, g2, g3, g4, g5, dl⟩ := hD3
  replace hD4 := Lib.hid hD4
  replace hR4 := Lib.hid hR4
  replace hv4 := Lib.hid hv4
  replace hres4 := Lib.hid hres4
  replace hB4 := Lib.hid hB4
  clear hB3 hres3 hR3 hv0
  go_wp2_with fail
  clear d0 d1 d2 d3 d4 d5 g0 g1 g2 g3 g4 g5 dl
  generalize w3.setCell ⟨dp, 0, none⟩ (.slice a0 gl.length c0) = w4 at *
  have hS2 := Lib.hid (lsome_c dp rb K [rc, s] w4 hR4.out (by omega) (by have := hKl.out; omega) (fun n hn => by have := hKb.out n hn; omega) (by simp))
  refine hS2.out.mono ?_; rintro e w5 ⟨v1, rfl, hv1, hR5, hbt5⟩
  obtain ⟨a1, c1, rfl⟩ := own_slB hv1
  have q5 : dp < w4.heap.size := by omega
  have hD5 := hD4.out.keep hbt5.size (hbt5.block dp q5 (fun e => by omega))
  have hres5 := hres4.out.keep hbt5.size (hbt5.block _ (by omega) (fun e => by omega))
  have hB5 : Below w.heap.size w w5 := hB4.out.trans (hbt5.below (by omega) (fun k hk => by omega))
  have hv5 := own_but hv4.out hbt5 (fun j hj e => by have := hv0l j hj; omega)
  have hIK := own_ints hv1 (by rw [List.length_map])
  have hz5 := hbt5.size
  have hKi : Hid (∀ w', But (fun k => k = dp) w5 w' → IntSl w' (.slice a1 K.length c1) (K.map fun n : Nat => (n : Int))) := Lib.hid fun w' h => own_ints (own_but hv1 h (fun j hj e => by have := (hv1.lt j hj).1; omega)) (by rw [List.length_map])
  replace hD5 := Lib.hid hD5
  replace hres5 := Lib.hid hres5
  replace hB5 := Lib.hid hB5
  replace hv5 := Lib.hid hv5
  replace hR5 := Lib.hid hR5
  clear hS2 hD4 hR4 hv4 hres4 hB4 hbt5 hv1 hIK hz4
  go_wp2_with fail
  go_loopw [38] (fun i wr => ∃ (k : Nat) (vn : Value), k ≤ K.length ∧ i = .int .i64 k ∧ DlAt wr dp (.slice a0 gl.length c0) vn ⟨0, 0, false⟩ 0 ∧ wr.ownsRow w5.heap.size 28 3 vn k (spCells ((M.take k).map qS)) ∧ But (fun j => j = dp) w5 wr) (fun i _ => K.length - (intOf i).toNat)
  case atStart => exact ⟨0, _, Nat.zero_le _, rfl, hD5.out, World.ownsRow_nil _ _ _ _, But.refl _ _⟩
  case round =>
    clear hD5
    obtain ⟨k, vn, hk, rfl, hD, hown, hbt⟩ := hrel
    have q6 : dp < w5.heap.size := by omega
    have hBr := Lib.hid (hB5.out.trans (hbt.below (B := w.heap.size) (by omega) (fun j hj => by omega)))
    by_cases hlt : k < K.length
    · obtain ⟨ax, cx, ex, hx⟩ := hKi.out wr hbt
      simp only [Value.slice.injEq, List.length_map] at ex
      obtain ⟨rfl, -, -⟩ := ex
      obtain ⟨bK, oK, rfl, hI⟩ := hx (by simp; omega)
      have hkm : k < M.length := by have := hKl.out; omega
      have hjm : k < (K.map fun n : Nat => (n : Int)).length := by rw [List.length_map]; exact hlt
      have l1 := hI.c k hjm
      have l2 := hI.lt
      rw [List.getElem_map] at l1
      have hcx : K[k] = codeS (qS M[k]) := by have h := hK.out; subst h; rw [List.getElem_map]
      rw [hcx] at l1
      have oA := qS_ok M[k]
      obtain ⟨an, cn, rfl⟩ := own_slB hown
      have hst : Hid ((M.take (k + 1)).map qS = (M.take k).map qS ++ [qS M[k]]) := Lib.hid (by rw [take_snocI M k hkm, List.map_append]; rfl)
      have hlen : ((M.take k).map qS).length = k := by rw [List.length_map, List.length_take]; omega
      have hkS := Lib.hid (lspot_c (qS M[k]) oA wr (hF'.out.below hBr.out))
      clear hcx hx hI
      generalize qS M[k] = A at *
      replace hst := Lib.hid hst
      replace hD := Lib.hid hD
      replace hown := Lib.hid hown
      have hzr := hbt.size
      replace hbt := Lib.hid hbt
      go_wp2_with fail
      refine hkS.out.mono ?_; rintro e w6 ⟨rfl, hb6⟩
      have hD6 := (hD.out.below hb6).below (balloc (below_alloc w6 (.cells #[.int .i64 A.x, .int .i64 A.y, .bool A.far] 28)) (.cells #[.int .i64 A.x, .int .i64 A.y, .bool A.far] 28))
      have hown6 := Lib.hid (((own_below hown.out hb6).alloc (.cells #[.int .i64 A.x, .int .i64 A.y, .bool A.far] 28)).alloc (.cells #[.int .i64 A.x, .int .i64 A.y, .bool A.far] 28))
      have hbt6 := Lib.hid (hbt.out.trans (But.of_below (S := fun j => j = dp) (below_seq hb6 (balloc (below_alloc w6 (.cells #[.int .i64 A.x, .int .i64 A.y, .bool A.far] 28)) (.cells #[.int .i64 A.x, .int .i64 A.y, .bool A.far] 28)))))
      have d1 := ((hD.out.below hb6).alloc1 (.cells #[.int .i64 A.x, .int .i64 A.y, .bool A.far] 28)).c1
      have hz6 := hb6.size
      have dl6 : dp < w6.heap.size := (hD.out.below hb6).lt
      clear l1 l2 hkS hb6
      replace hD6 := Lib.hid hD6
      go_wp2_with (first | (at_builtin; refine wpl_append_spot rfl _ _ _ rfl (by kernel_rfl) w5.heap.size (.slice an k cn) ((M.take k).map qS) k rfl hown6.out hlen (by omega) (by simp only [World.size_alloc]; omega) (w6.heap.size + 1) A rfl (by go_simp) (by go_simp) (by go_simp) ?_; intro v' w8 hown' hgrow hbel hloc; have hb8 := hbel _ (Below.refl _ _); have hD8 := hD6.out.keep hb8.size (hb8.block dp q6); have hE8 := hD8; obtain ⟨av, cv, rfl⟩ := own_slB hown'; obtain ⟨d0, d1, -, -, -, -, g0, g1, -, -, -, -, dl⟩ := hE8; replace hown' := Lib.hid hown'; replace hD8 := Lib.hid hD8; replace hb8 := Lib.hid hb8; clear hgrow hloc hbel) | fail)
      have hfD := hD8.out.setn (.slice av (k + 1) cv)
      have hfo := own_keep hown'.out (w' := w8.setCell ⟨dp, 1, none⟩ (.slice av (k + 1) cv)) (fun j hj => heap_setCell_other w8 ⟨dp, 1, none⟩ j _ (by have := (hown'.out.lt j hj).1; show j ≠ dp; omega))
      have hfb := (hbt6.out.after hb8.out).trans (But.setCell (S := fun j => j = dp) (p := ⟨dp, 1, none⟩) rfl (.slice av (k + 1) cv))
      rw [← hst.out.out] at hfo
      clear d0 d1 g0 g1
      go_wp2
      go_roundw
      case rel => exact ⟨k + 1, _, by omega, by go_num, hfD, hfo, hfb⟩
      case measure => simp [intOf]; omega
    · obtain rfl : k = K.length := by omega
      have e1 : M.take K.length = M := List.take_of_length_le (by have := hKl.out; omega)
      rw [e1] at hown
      have hz6 := hbt.size
      have hR6 := hR5.out.below (hbt.below (B := dp) (Nat.le_of_lt q6) (fun j hj => by omega))
      have hv6 := own_but hv5.out hbt (fun j hj e => by have := hv0l j hj; omega)
      have hres6 := hres5.out.keep hbt.size (hbt.block _ (by omega) (fun e => by omega))
      obtain ⟨an, cn, rfl⟩ := own_slB hown
      have hnl := fun j hj => (hown.lt j hj).1
      have hN6 := Lib.hid (lnumber_c dp rb rc [s] wr hR6 (by omega) (by simp))
      have kS := Lib.hid (fun (w' : World) (hF1 : FarAt w') => lspot_c RS oR w' hF1)
      rw [hrc.out] at kS
      replace hD := Lib.hid hD
      replace hown := Lib.hid hown
      replace hv6 := Lib.hid hv6
      replace hres6 := Lib.hid hres6
      clear e1 hR5 hv5 hres5 hB5 hbt hR6 hKi hK hKb hgb hm hk hlt
      go_wp2_with fail
      refine hN6.out.mono ?_; rintro e w7 ⟨rfl, hR7, hb7⟩
      have hD7 := hD.out.keep hb7.size (hb7.block dp (by omega) (fun e => by omega))
      have hv7 := own_but hv6.out hb7 (fun j hj e => by have := hv0l j hj; omega)
      have hn7 := own_but hown.out hb7 (fun j hj e => by have := hnl j hj; omega)
      have hres7 := hres6.out.keep hb7.size (hb7.block _ (by omega) (fun e => by omega))
      have hB7 := hBr.out.trans (hb7.below (B := w.heap.size) hBr.out.size (fun j hj => by omega))
      have hz7 := hb7.size
      replace hB7 := Lib.hid hB7
      clear hb7 hN6 hD hown hv6 hres6 hBr
      go_wp2_with fail
      refine (kS.out _ (hF'.out.below hB7.out)).mono ?_; rintro e w8 ⟨rfl, hb8⟩
      have hz8 := hb8.size
      have hD8 := hD7.below hb8
      have hv8 := own_below hv7 hb8
      have hn8 := own_below hn7 hb8
      have hres8 := hres7.below hb8
      have hB8 := Lib.hid (below_seq hB7.out hb8)
      have hR8 := hR7.below (hb8.mono (by omega))
      clear hb8 hD7 hv7 hn7 hres7 hR7 hB7 kS
      have hb9 : Below dp w8 (((w8.setCell ⟨dp, 2, none⟩ (.int .i64 RS.x)).setCell ⟨dp, 3, none⟩ (.int .i64 RS.y)).setCell ⟨dp, 4, none⟩ (.bool RS.far)) := (((Below.refl dp w8).setCell (p := ⟨dp, 2, none⟩) (Nat.le_refl _) _).setCell (p := ⟨dp, 3, none⟩) (Nat.le_refl _) _).setCell (p := ⟨dp, 4, none⟩) (Nat.le_refl _) _
      have hk9 : ∀ j, j ≠ dp → (((w8.setCell ⟨dp, 2, none⟩ (.int .i64 RS.x)).setCell ⟨dp, 3, none⟩ (.int .i64 RS.y)).setCell ⟨dp, 4, none⟩ (.bool RS.far)).heap[j]? = w8.heap[j]? := fun j hj => by
        rw [heap_setCell_other _ ⟨dp, 4, none⟩ j _ hj, heap_setCell_other _ ⟨dp, 3, none⟩ j _ hj, heap_setCell_other _ ⟨dp, 2, none⟩ j _ hj]
      have hD9 := hD8.setR RS
      have hv9 := own_keep hv8 (fun j hj => hk9 j (by have := hv0l j hj; omega))
      have hn9 := own_keep hn8 (fun j hj => hk9 j (by have := hnl j hj; omega))
      have hres9 := hres8.keep hb9.size (hk9 _ (by omega))
      have hR9 := hR8.below hb9
      have hB9 := Lib.hid (hB8.out.trans (hb9.mono (by omega)))
      have hz9 : w8.heap.size ≤ (((w8.setCell ⟨dp, 2, none⟩ (.int .i64 RS.x)).setCell ⟨dp, 3, none⟩ (.int .i64 RS.y)).setCell ⟨dp, 4, none⟩ (.bool RS.far)).heap.size := hb9.size
      obtain ⟨d0, d1, d2, d3, d4, d5, g0, g1, g2, g3, g4, g5, dl⟩ := hD8
      replace hD9 := Lib.hid hD9
      replace hv9 := Lib.hid hv9
      replace hn9 := Lib.hid hn9
      replace hres9 := Lib.hid hres9
      replace hR9 := Lib.hid hR9
      clear hb9 hk9 hv8 hn8 hres8 hR8 hB8
      go_wp2_with fail
      clear d0 d1 d2 d3 d4 d5 g0 g1 g2 g3 g4 g5 dl
      generalize ((w8.setCell ⟨dp, 2, none⟩ (.int .i64 RS.x)).setCell ⟨dp, 3, none⟩ (.int .i64 RS.y)).setCell ⟨dp, 4, none⟩ (.bool RS.far) = w9 at *
      have hN9 := Lib.hid (lnumber_c dp rb s [] w9 hR9.out (by omega) (by simp))
      refine hN9.out.mono ?_; rintro e w10 ⟨rfl, -, hb10⟩
      have hz10 := hb10.size
      have hD10 := hD9.out.keep hb10.size (hb10.block dp (by omega) (fun e => by omega))
      have hv10 := own_but hv9.out hb10 (fun j hj e => by have := hv0l j hj; omega)
      have hn10 := own_but hn9.out hb10 (fun j hj e => by have := hnl j hj; omega)
      have hres10 := hres9.out.keep hb10.size (hb10.block _ (by omega) (fun e => by omega))
      have hB10 := Lib.hid (hB9.out.trans (hb10.below (B := w.heap.size) hB9.out.size (fun j hj => by omega)))
      have hD11 := hD10.setS (s : Int)
      have hk11 : ∀ j, j ≠ dp → (w10.setCell ⟨dp, 5, none⟩ (.int .i64 (s : Int))).heap[j]? = w10.heap[j]? := fun j hj => heap_setCell_other _ ⟨dp, 5, none⟩ j _ hj
      have hv11 := own_keep hv10 (fun j hj => hk11 j (by have := hv0l j hj; omega))
      have hn11 := own_keep hn10 (fun j hj => hk11 j (by have := hnl j hj; omega))
      have hres11 := hres10.keep (w' := w10.setCell ⟨dp, 5, none⟩ (.int .i64 (s : Int))) (by simp) (hk11 _ (by omega))
      have hB11 := Lib.hid (hB10.out.setCell (p := ⟨dp, 5, none⟩) (by show w.heap.size ≤ dp; omega) (.int .i64 (s : Int)))
      have d5 := hD10.c5
      have g5 := hD10.f5
      have dl := hD10.lt
      replace hD11 := Lib.hid hD11
      replace hv11 := Lib.hid hv11
      replace hn11 := Lib.hid hn11
      replace hres11 := Lib.hid hres11
      clear hD9 hv9 hn9 hres9 hR9 hB9 hN9 hb10 hD10 hv10 hn10 hres10 hB10 hk11 hz9 hz8
      go_upto_region 25 with fail
      clear d5 g5 dl
      generalize w10.setCell ⟨dp, 5, none⟩ (.int .i64 (s : Int)) = w11 at *
      have hfin := ((hres11.out.setg (.slice a0 gl.length c0)).setn (.slice an K.length cn)).set1 RS (s : Int)
      have hkF : ∀ j, j ≠ w.heap.size → ((((((w11.setCell ⟨w.heap.size, 0, none⟩ (.slice a0 gl.length c0)).setCell ⟨w.heap.size, 1, none⟩ (.slice an K.length cn)).setCell ⟨w.heap.size, 2, none⟩ (.int .i64 RS.x)).setCell ⟨w.heap.size, 3, none⟩ (.int .i64 RS.y)).setCell ⟨w.heap.size, 4, none⟩ (.bool RS.far)).setCell ⟨w.heap.size, 5, none⟩ (.int .i64 (s : Int))).heap[j]? = w11.heap[j]? := fun j hj => by
        rw [heap_setCell_other _ ⟨w.heap.size, 5, none⟩ j _ hj, heap_setCell_other _ ⟨w.heap.size, 4, none⟩ j _ hj, heap_setCell_other _ ⟨w.heap.size, 3, none⟩ j _ hj, heap_setCell_other _ ⟨w.heap.size, 2, none⟩ j _ hj, heap_setCell_other _ ⟨w.heap.size, 1, none⟩ j _ hj, heap_setCell_other _ ⟨w.heap.size, 0, none⟩ j _ hj]
      have hvF := own_base (own_keep hv11.out (fun j hj => hkF j (by have := hv0l j hj; omega))) (show w.heap.size ≤ w2.heap.size by omega)
      have hnF := own_base (own_keep hn11.out (fun j hj => hkF j (by have := hnl j hj; omega))) (show w.heap.size ≤ w5.heap.size by omega)
      have hBF : Below w.heap.size w ((((((w11.setCell ⟨w.heap.size, 0, none⟩ (.slice a0 gl.length c0)).setCell ⟨w.heap.size, 1, none⟩ (.slice an K.length cn)).setCell ⟨w.heap.size, 2, none⟩ (.int .i64 RS.x)).setCell ⟨w.heap.size, 3, none⟩ (.int .i64 RS.y)).setCell ⟨w.heap.size, 4, none⟩ (.bool RS.far)).setCell ⟨w.heap.size, 5, none⟩ (.int .i64 (s : Int))) := (((((hB11.out.setCell (p := ⟨w.heap.size, 0, none⟩) (Nat.le_refl _) _).setCell (p := ⟨w.heap.size, 1, none⟩) (Nat.le_refl _) _).setCell (p := ⟨w.heap.size, 2, none⟩) (Nat.le_refl _) _).setCell (p := ⟨w.heap.size, 3, none⟩) (Nat.le_refl _) _).setCell (p := ⟨w.heap.size, 4, none⟩) (Nat.le_refl _) _).setCell (p := ⟨w.heap.size, 5, none⟩) (Nat.le_refl _) _
      obtain ⟨d0, d1, d2, d3, d4, d5, -, -, -, -, -, -, dl⟩ := hD11.out
      obtain ⟨p0, p1, p2, p3, p4, p5, r0, r1, r2, r3, r4, r5, pl⟩ := hres11.out
      replace hfin := Lib.hid hfin
      replace hvF := Lib.hid hvF
      replace hnF := Lib.hid hnF
      replace hBF := Lib.hid hBF
      clear hkF hv11 hn11 hB11 hD11 hres11
      go_wp2
      clear d0 d1 d2 d3 d4 d5 dl p0 p1 p2 p3 p4 p5 r0 r1 r2 r3 r4 r5 pl
      obtain ⟨k0, k1, k2, k3, k4, k5, -, -, -, -, -, -, -⟩ := hfin.out
      rw [← hKl.out]
      refine bodyPost_ret (v := .tuple #[dlV (.slice a0 gl.length c0) (.slice an K.length cn) RS (s : Int), .nilIface]) (by simp [results, Tryz.results99, go_sem, k0, k1, k2, k3, k4, k5]) rfl ⟨_, _, rfl, (by have := hvF.out; rw [List.map_map] at this; exact this), hnF.out, hBF.out⟩
end Go.Proofs.YtjjmelhhalomaaaGreatDoor
