/- The law RingHolds, walked. -/
import Derived.Test.YtnlaofapjldciaaDoorRu
import Derived.Test.YtnlaofapjldciaaDoorKe
namespace Go.Proofs.YtnlaofapjldciaaDoor
open Go.RowKit
set_option maxRecDepth 100000
set_option linter.unusedVariables false
set_option linter.unusedSimpArgs false
theorem wpl_append_spot2 {w : World} {ops : Array Oper} {rest : List Oper} {o : Oper} {a : Act} {Q : Exit → Act → World → Prop} (hgd : o.guard = none) (s x : Operand) (t : TypeId)
    (ho : o.op = .call { callee := .builtin .append, args := #[s, x], argTypes := #[t, t] }) (ht : Tryd.prog.underlying t = some (.slice 24)) (B : Nat) (v : Value) (l : List Sp) (n : Nat) (hs : a.eval s = v)
    (hown : w.ownsRow B 24 3 v n (spCells l)) (hn : l.length = n) (hl : n ≤ 2000000) (hB : B ≤ w.heap.size) (g : Nat) (c : Sp) (hx : a.eval x = .slice (some ⟨g, 0, none⟩) 1 1)
    (h0 : w.cell? ⟨g, 0, none⟩ = some (.int .i64 c.x)) (h1 : w.cell? ⟨g, 1, none⟩ = some (.int .i64 c.y)) (h2 : w.cell? ⟨g, 2, none⟩ = some (.bool c.far))
    (h : ∀ v' w', w'.ownsRow B 24 3 v' (n + 1) (spCells (l ++ [c])) → w.grownBy w' v.ownBlock → (∀ a, Below B a w → Below B a w') → (v'.ownBlock = v.ownBlock ∨ v'.ownBlock = some w.heap.size) → wpList Tryd.prog ops Q rest (a.put o.dst v') w') :
    wpList Tryd.prog ops Q (o :: rest) a w := by
  obtain ⟨i0, hi, hz0, hz1, hz2⟩ := info_parts info_spot
  refine wpList_append_own_at _ hgd s x _ ho B _ i0 _ 3 24 ht hi hz0 hz1 hz2 rfl (by decide) v n _ hs hown ⟨g, 0, none⟩ 1 1 [.int .i64 c.x, .int .i64 c.y, .bool c.far] hx rfl ?_ ?_ (by unfold maxLen; omega) (by omega) hB ?_
  · intro j u hj
    have e : ∀ k, (⟨g, 0, none⟩ : Addr).add k = ⟨g, k, none⟩ := fun k => by rw [add_none, Nat.zero_add]
    rw [e]
    match j, hj with
    | 0, hj => cases hj; exact h0
    | 1, hj => cases hj; exact h1
    | 2, hj => cases hj; exact h2
  · intro u hu
    simp only [List.mem_cons, List.not_mem_nil, or_false] at hu
    rcases hu with rfl | rfl | rfl <;> rfl
  · intro v' w' h3 h4 _ h6
    rw [← spCells_snoc] at h3
    exact h v' w' h3 h4 (fun a hb => Below.grown hb h4 hB (fun k hk => (hown.lt k hk).1)) h6
theorem take_snoc4 {α : Type} (l : List α) (n : Nat) (h : n < l.length) : l.take (n + 1) = l.take n ++ [l[n]] := by
  rw [List.take_add_one, List.getElem?_eq_getElem h]; rfl
/-- What was signed comes to where it began. -/
theorem ring_back (L t : ByteArray) (us : List Int) (o : Nat → Int) (at' n : Nat) (k x : Int) (f : Nat → Int) (h1 : at' < n) (hf : ∀ i, i < n → f ((at' + i + 1) % n) = rD L t us o at' n k i) (hu : us.getD at' 0 = 4 * x) (os : List Int) (ho : ∀ j, j < n → os.getD j 0 = if j = at' then (k - f at' * x) % 1013 else o j) : rChain L t us os (f 0) n = f 0 := by
  have step : ∀ j, j < n → f ((j + 1) % n) = rNext L t (us.getD j 0) (f j) (os.getD j 0) := by
    intro j hj
    rw [ho j hj]
    by_cases e : j = at'
    · subst e
      rw [if_pos rfl, hu]
      have := hf 0 (by omega)
      rw [Nat.add_zero] at this
      rw [this]
      show rAsk L t (sq (4 * k)) = rAsk L t (sq (4 * ((k - f j * x) % 1013) + 4 * x * f j))
      congr 1
      rw [Int.mul_assoc 4 x, Int.mul_comm x]
      generalize f j * x = p
      exact sq_eq_iff.mpr (by omega)
    · rw [if_neg e]
      obtain ⟨i, hi, hij⟩ : ∃ i, i + 1 < n ∧ (at' + (i + 1)) % n = j := by
        by_cases hl : at' < j
        · exact ⟨j - at' - 1, by omega, by rw [show at' + (j - at' - 1 + 1) = j by omega]; exact Nat.mod_eq_of_lt hj⟩
        · exact ⟨j + n - at' - 1, by omega, by rw [show at' + (j + n - at' - 1 + 1) = j + n by omega, Nat.add_mod_right]; exact Nat.mod_eq_of_lt hj⟩
      have e1 := hf i (by omega)
      have e2 := hf (i + 1) hi
      rw [show at' + i + 1 = at' + (i + 1) by omega, hij] at e1
      rw [show at' + (i + 1) + 1 = (at' + (i + 1)) + 1 by omega, ← Nat.mod_add_mod, hij] at e2
      rw [e2, rD, hij, ← e1]
  have chain : ∀ j, j ≤ n → rChain L t us os (f 0) j = f (j % n) := by
    intro j
    induction j with
    | zero => intro _; rw [Nat.zero_mod]; rfl
    | succ j ih =>
      intro hj
      rw [rChain, ih (by omega), Nat.mod_eq_of_lt (show j < n by omega)]
      exact (step j (by omega)).symm
  rw [chain n (Nat.le_refl _), Nat.mod_self]
/-- What was filled in, and what was reckoned. -/
def rOut (ss : List Int) (at' n : Nat) (s : Int) : List Int := (List.range n).map fun j => if j = at' then s else (ss.set at' 0).getD j 0
theorem rOut_len (ss : List Int) (at' n : Nat) (s : Int) : (rOut ss at' n s).length = n := by simp [rOut]
theorem rOut_get (ss : List Int) (at' n : Nat) (s : Int) (j : Nat) (h : j < (rOut ss at' n s).length) : (rOut ss at' n s)[j] = if j = at' then s else (ss.set at' 0).getD j 0 := by simp [rOut]
theorem rOut_else (ss : List Int) (at' n : Nat) (s : Int) (j : Nat) (h : j < (rOut ss at' n s).length) (hj : j ≠ at') : (rOut ss at' n s)[j] = ss.getD j 0 := by
  rw [rOut_get, if_neg hj, List.getD_eq_getElem?_getD, List.getElem?_set_ne (Ne.symm hj), ← List.getD_eq_getElem?_getD]
theorem rOut_ok {ss : List Int} {at' n : Nat} {s : Int} (hs : ss.length = n) (h : (ss.set at' 0).all okR = true) (s0 : 0 ≤ s) (s1 : s < 1013) : (rOut ss at' n s).all okR = true := by
  rw [List.all_eq_true]
  intro z hz
  obtain ⟨j, hj, rfl⟩ := List.mem_iff_getElem.mp hz
  rw [rOut_get]
  split
  · exact decide_eq_true ⟨s0, s1⟩
  · have hl : j < (ss.set at' 0).length := by rw [List.length_set, hs]; rw [rOut_len] at hj; exact hj
    rw [getD_at hl]
    exact List.all_eq_true.mp h _ (List.getElem_mem hl)
/-- A ringed seal, signed: it is right. -/
theorem rsign_all (us : List Int) (l : List Sp) (ss : List Int) (vk vs : Value) (t : ByteArray) (at' n : Nat) (x k : Int) (Kx : Sp) (w : World) (hF : FarAt w) (h1 : at' < n) (h2 : n ≤ 12) (hn : l.length = n) (hl : Hid (l = us.map sq)) (hsl : ss.length = n) (hss : (ss.set at' 0).all okR = true) (ht : t.size ≤ 60)
    (x1 : 1 ≤ x) (x2 : x < 1013) (k1 : 1 ≤ k) (k2 : k < 1013) (hu : us.getD at' 0 = 4 * x) (hKx : Hid (sq (4 * x) = Kx)) (hat : Hid (∀ h : at' < l.length, l[at'] = Kx)) (hk : SpSl w vk l) (hv : IntSl w vs ss) :
    Calls Tryd.prog 17 #[vk, .int .i64 at', .int .i64 x, .int .i64 k, vs, .string t] w fun e w' => ∃ (C : Int) (g cap : Nat) (os : List Int), e = .returned (.tuple #[.agg #[.int .i64 C, .slice (some ⟨g, 0, none⟩) n cap], .nilIface]) ∧ IntsAt w' g 0 os ∧ os.length = n ∧ os.all okR = true ∧ 0 ≤ C ∧ C < 1013 ∧ rChain (lsB n l) t us os C n = C ∧ (∀ j (h : j < os.length), j ≠ at' → os[j] = ss.getD j 0) ∧ Below w.heap.size w w' := by
  refine Calls.mono (rsign_y us l ss vk vs t at' n x k _ Kx _ w hF h1 h2 hn hl hsl hss ht x1 x2 k1 k2 hKx hat rfl hk hv rfl _ rfl) ?_
  rintro e w' ⟨f, g, cap, hf, rfl, hI, hb⟩
  refine ⟨f 0, g, cap, rOut ss at' n ((k - f at' * x) % 1013), rfl, ⟨hI.lt, fun i hi => ?_⟩, rOut_len _ _ _ _, rOut_ok hsl hss (Int.emod_nonneg _ (by decide)) (Int.emod_lt_of_pos _ (by decide)), ?_, ?_, ?_, fun j hj hne => rOut_else _ _ _ _ j hj hne, hb⟩
  · rw [rOut_get, Nat.zero_add]; rw [rOut_len] at hi; exact hI.c i hi
  · have := hf (n - 1 - at') (by omega)
    rw [show at' + (n - 1 - at') + 1 = n by omega, Nat.mod_self] at this
    rw [this]; exact (rD_bd _).1
  · have := hf (n - 1 - at') (by omega)
    rw [show at' + (n - 1 - at') + 1 = n by omega, Nat.mod_self] at this
    rw [this]; exact (rD_bd _).2
  · refine ring_back _ t us _ at' n k x f h1 hf hu _ (fun j hj => ?_)
    rw [getD_at (show j < (rOut ss at' n ((k - f at' * x) % 1013)).length by rw [rOut_len]; exact hj), rOut_get]
theorem one_s (w : World) (hF : FarAt w) (vk vs : Value) (hk : SpSl w vk [⟨1189, 3667, false⟩]) (hv : IntSl w vs [0]) :
    Calls Tryd.prog 17 #[vk, .int .i64 0, .int .i64 1, .int .i64 2, vs, .string ⟨#[97]⟩] w fun e w' => ∃ (C : Int) (g cap : Nat) (os : List Int), e = .returned (.tuple #[.agg #[.int .i64 C, .slice (some ⟨g, 0, none⟩) 1 cap], .nilIface]) ∧ IntsAt w' g 0 os ∧ os.length = 1 ∧ os.all okR = true ∧ 0 ≤ C ∧ C < 1013 ∧ rChain (lsB 1 [⟨1189, 3667, false⟩]) ⟨#[97]⟩ [4] os C 1 = C ∧ g < w'.heap.size ∧ Below w.heap.size w w' := by
  refine (rsign_all [4] [⟨1189, 3667, false⟩] [0] vk vs ⟨#[97]⟩ 0 1 1 2 ⟨1189, 3667, false⟩ w hF (by decide) (by decide) rfl (Lib.hid (by rw [← sq_4]; rfl)) rfl (by decide) (by decide) (by decide) (by decide) (by decide) (by decide) rfl sq_4 (Lib.hid fun _ => rfl) hk hv).mono ?_
  rintro e w' ⟨C, g, cap, os, rfl, hi, h1, h2, h3, h4, h5, -, hb⟩
  exact ⟨C, g, cap, os, rfl, hi, h1, h2, h3, h4, h5, hi.lt, hb⟩
/-- A ringed seal that is refused. -/
theorem rsign_no (us : List Int) (l : List Sp) (ss : List Int) (au a2 : Option Addr) (cu c2 : Nat) (t : ByteArray) (p n : Nat) (x k : Int) (Kx : Sp) (w : World) (hF : FarAt w) (h1 : p < n) (hn : l.length = n) (hl : Hid (l = us.map sq)) (hm : n ≤ 1048576) (m2 : ss.length ≤ 9223372036854775807) (hz : t.size ≤ 140737488351232)
    (x1 : 1 ≤ x) (x2 : x < 1013) (hKx : Hid (sq (4 * x) = Kx)) (hat : Hid (∀ h : p < l.length, l[p] = Kx)) (hk : SpSl w (.slice au n cu) l) (hv : IntSl w (.slice a2 ss.length c2) ss) (hbad : ¬ (n ≤ 12 ∧ t.size ≤ 60 ∧ ss.length = n ∧ (1 ≤ k ∧ k < 1013) ∧ (ss.set p 0).all okR = true)) :
    ∃ E : Int, Calls Tryd.prog 17 #[.slice au n cu, .int .i64 p, .int .i64 x, .int .i64 k, .slice a2 ss.length c2, .string t] w fun e w' => e = .returned (.tuple #[.agg #[.int .i64 0, .slice none 0 0], .iface 125 (.int .i64 E)]) ∧ Below w.heap.size w w' := by
  have hok : ∀ z ∈ l, Ok z := by rw [hl.out]; intro z hz; obtain ⟨u, -, rfl⟩ := List.mem_map.mp hz; exact sq_ok u
  by_cases b1 : 12 < n
  · exact ⟨4, rsign_nr 4 n au cu _ p x k t w (fun w' _ => ready_full n au cu t w' b1 (by omega))⟩
  by_cases b2 : 60 < t.size
  · exact ⟨4, rsign_nr 4 n au cu _ p x k t w (fun w' hb => ready_text l _ t w' (hF.below hb) (by omega) (by omega) (hk.below hb) hok b2 hz)⟩
  have hR : Hid (∀ w', Below w.heap.size w w' → Calls Tryd.prog 84 #[.slice au n cu, .string t] w' fun e w'' => e = .returned (.tuple #[.string (lsB l.length l), .nilIface]) ∧ Below w'.heap.size w' w'') := fun w' hb => ready_e l _ t w' (hF.below hb) (by omega) (by omega) (hk.below hb) hok (by omega)
  by_cases b3 : ss.length ≠ n
  · exact ⟨3, rsign_nsh n ss.length au a2 cu c2 _ p x k t w b3 m2 (by omega) hR⟩
  replace b3 : ss.length = n := by omega
  by_cases b4 : ¬ (1 ≤ k ∧ k < 1013)
  · rw [b3]; exact ⟨1, rsign_nk n au a2 cu c2 _ p x k t w h1 (by omega) x1 x2 b4 hR⟩
  replace b4 : 1 ≤ k ∧ k < 1013 := by omega
  have b5 : (ss.set p 0).all okR = false := by
    cases e : (ss.set p 0).all okR with
    | false => rfl
    | true => exact absurd ⟨by omega, by omega, b3, b4, e⟩ hbad
  exact ⟨1, rsign_ns us l ss _ _ t p n x k _ Kx _ w hF h1 (by omega) hn hl b3 b5 (by omega) x1 x2 b4.1 b4.2 hKx hat rfl hk hv rfl _ rfl⟩
set_option maxHeartbeats 16000000 in
theorem rh_all (xs ss : List Int) (v1 v2 : Value) (at' k : Int) (t : ByteArray) (w : World) (hF : FarAt w) (h1 : IntSl w v1 xs) (h2 : IntSl w v2 ss) (m1 : xs.length ≤ 1048576) (m2 : ss.length ≤ 9223372036854775807) (hz : t.size ≤ 140737488351232) :
    Calls Tryd.prog 3 #[v1, .int .i64 at', .int .i64 k, v2, .string t] w fun e w' => e = .returned (.bool true) ∧ Below w.heap.size w w' := by
  obtain ⟨a1, c1, rfl, i1⟩ := h1
  obtain ⟨a2, c2, rfl, i2⟩ := h2
  replace i1 := Lib.hid i1
  replace i2 := Lib.hid i2
  have hF' := Lib.hid hF
  go_enter Tryd.func3, Tryd.ntmps3
  go_wp2_with fail
  refine (key_one _ (hF.below (by repeat (first | exact Below.refl _ _ | refine balloc ?_ _ | refine Below.drew ?_ | refine below_drewN ?_ _ | refine below_set ?_ (by first | omega | (dsimp only; omega)) _)))).mono ?_; rintro e w1 ⟨rfl, hb⟩
  obtain ⟨hc1, hf1⟩ := bcell hb
  have z1 := hb.size
  try simp only [World.size_alloc, World.size_setCell, World.size_drew] at z1
  have hB1 : Below w.heap.size w w1 := below_seq (by repeat (first | exact Below.refl _ _ | refine balloc ?_ _ | refine Below.drew ?_ | refine below_drewN ?_ _ | refine below_set ?_ (by first | omega | (dsimp only; omega)) _)) hb
  clear hb
  have j1 := ((SpSl.made (w1.alloc (.cells #[.int .i64 1189, .int .i64 3667, .bool false] 24)) [⟨1189, 3667, false⟩] (w1.heap.size + 1) 1 1 #[.int .i64 1189, .int .i64 3667, .bool false] 24 (by simp) rfl rfl).below (below_alloc _ (.cells #[.int .i64 0] 3)))
  have j2 := IntSl.made ((w1.alloc (.cells #[.int .i64 1189, .int .i64 3667, .bool false] 24)).alloc (.cells #[.int .i64 1189, .int .i64 3667, .bool false] 24)) [0] (w1.heap.size + 1 + 1) 1 1 #[.int .i64 0] 3 (by simp) rfl rfl
  have hS := Lib.hid (fun hF => one_s _ hF _ _ j1 j2)
  clear j1 j2
  go_wp2_with fail
  refine (hS.out (hF.below (by repeat (first | exact hB1 | exact Below.refl _ _ | refine balloc ?_ _ | refine Below.drew ?_ | refine below_drewN ?_ _ | refine below_set ?_ (by first | omega | (dsimp only; omega)) _)))).mono ?_; rintro e w2 ⟨C, g, cap, os, rfl, hi, n1, n2, n3, n4, n5, n6, hb⟩
  obtain ⟨hc2, hf2⟩ := bcell hb
  have z2 := hb.size
  try simp only [World.size_alloc, World.size_setCell, World.size_drew] at z2
  have s2_0 : w1.heap.size < w2.heap.size := by omega
  have s2_1 : w1.heap.size + 1 < w2.heap.size := by omega
  have s2_2 : w1.heap.size + 1 + 1 < w2.heap.size := by omega
  have hB2 : Below w.heap.size w w2 := below_seq (by repeat (first | exact hB1 | exact Below.refl _ _ | refine balloc ?_ _ | refine Below.drew ?_ | refine below_drewN ?_ _ | refine below_set ?_ (by first | omega | (dsimp only; omega)) _)) hb
  clear hb
  have m2_0_0 : w2.cell? ⟨w1.heap.size, 0, none⟩ = some (.int .i64 1189) := by go_simp
  have m2_0_1 : w2.cell? ⟨w1.heap.size, 1, none⟩ = some (.int .i64 3667) := by go_simp
  have m2_0_2 : w2.cell? ⟨w1.heap.size, 2, none⟩ = some (.bool false) := by go_simp
  have j3 := SpSl.made (w2.alloc (.cells #[.int .i64 C, .slice (some ⟨g, 0, none⟩) 1 cap] 30)) [⟨1189, 3667, false⟩] (w2.heap.size + 1) 1 1 #[.int .i64 1189, .int .i64 3667, .bool false] 24 (by simp) rfl rfl
  have hi2 := (hi.below (below_alloc _ (.cells #[.int .i64 C, .slice (some ⟨g, 0, none⟩) 1 cap] 30))).below (below_alloc _ (.cells #[.int .i64 1189, .int .i64 3667, .bool false] 24))
  have hV := Lib.hid (fun hF => rverify_e [4] [⟨1189, 3667, false⟩] os _ (.slice (some ⟨g, 0, none⟩) 1 cap) ⟨#[97]⟩ C true _ hF (by decide) (by decide) (Lib.hid (by rw [← sq_4]; rfl)) n1 n2 n3 n4 (by decide) j3 ⟨_, cap, by rw [n1], fun _ => ⟨g, 0, rfl, hi2⟩⟩ (Lib.hid (beq_iff_eq.mpr n5)))
  clear j3 hi hi2 n5
  go_wp2_with fail
  refine (hV.out (hF.below (by repeat (first | exact hB2 | exact Below.refl _ _ | refine balloc ?_ _ | refine Below.drew ?_ | refine below_drewN ?_ _ | refine below_set ?_ (by first | omega | (dsimp only; omega)) _)))).mono ?_; rintro e w3 ⟨rfl, hb⟩
  obtain ⟨hc3, hf3⟩ := bcell hb
  have z3 := hb.size
  try simp only [World.size_alloc, World.size_setCell, World.size_drew] at z3
  have s3_0 : w1.heap.size < w3.heap.size := by omega
  have s3_1 : w1.heap.size + 1 < w3.heap.size := by omega
  have s3_2 : w1.heap.size + 1 + 1 < w3.heap.size := by omega
  have s3_3 : w2.heap.size < w3.heap.size := by omega
  have s3_4 : w2.heap.size + 1 < w3.heap.size := by omega
  have hB3 : Below w.heap.size w w3 := below_seq (by repeat (first | exact hB2 | exact Below.refl _ _ | refine balloc ?_ _ | refine Below.drew ?_ | refine below_drewN ?_ _ | refine below_set ?_ (by first | omega | (dsimp only; omega)) _)) hb
  clear hb
  have m3_0_0 : w3.cell? ⟨w2.heap.size, 0, none⟩ = some (.int .i64 C) := by go_simp
  have m3_0_1 : w3.cell? ⟨w2.heap.size, 1, none⟩ = some (.slice (some ⟨g, 0, none⟩) 1 cap) := by go_simp
  clear m2_0_0 m2_0_1 m2_0_2
  have hB3' := Lib.hid hB3
  have hF3 := Lib.hid (hF'.out.below hB3)
  have e1 := Lib.hid (fun w' (hb' : Below w3.heap.size w3 w') hp => by obtain ⟨b, off, e, hs⟩ := i1.out hp; exact (⟨b, off, e, (hs.below hB3'.out).below hb'⟩ : ∃ b off, a1 = some ⟨b, off, none⟩ ∧ IntsAt w' b off xs))
  have e2 := Lib.hid (fun w' (hb' : Below w3.heap.size w3 w') => (⟨a2, c2, rfl, fun hp => by obtain ⟨b, off, e, hs⟩ := i2.out hp; exact ⟨b, off, e, (hs.below hB3'.out).below hb'⟩⟩ : IntSl w' (.slice a2 ss.length c2) ss))
  have e3 := Lib.hid (fun w' (hb' : Below w3.heap.size w3 w') hp => by obtain ⟨b, off, e, hs⟩ := i2.out hp; exact (⟨b, off, e, (hs.below hB3'.out).below hb'⟩ : ∃ b off, a2 = some ⟨b, off, none⟩ ∧ IntsAt w' b off ss))
  obtain ⟨l, hl⟩ : ∃ l, xs.map (fun x => sq (4 * x)) = l := ⟨_, rfl⟩
  have hll : l.length = xs.length := by rw [← hl, List.length_map]
  have hlu : Hid (l = (xs.map (4 * ·)).map sq) := Lib.hid (by rw [← hl, List.map_map]; rfl)
  have hle : Hid (∀ i (h1 : i < xs.length) (h2 : i < l.length), sq (4 * xs[i]) = l[i]) := Lib.hid (by
    intro i h1 h2
    subst hl
    rw [List.getElem_map])
  clear hl i1 i2 hB1 hB2 hB3 hF
  go_wp2
  go_loopw [17, 18] (fun o i wr => ∃ (n : Nat) (u : Value), n ≤ xs.length ∧ i = .int .i64 n ∧ u = o ∧ (∀ j (h : j < xs.length), j < n → 1 ≤ xs[j] ∧ xs[j] < 1013) ∧ wr.ownsRow w3.heap.size 24 3 u n (spCells (l.take n)) ∧ Below w3.heap.size w3 wr) (fun _ i _ => xs.length - (intOf i).toNat)
  case atStart => exact ⟨0, _, Nat.zero_le _, rfl, rfl, fun j _ h => absurd h (Nat.not_lt_zero _), World.ownsRow_nil _ _ _ _, Below.refl _ _⟩
  case round =>
    obtain ⟨n, u, hn, rfl, rfl, hsec, hown, hb⟩ := hrel
    replace hown := Lib.hid hown
    replace hb := Lib.hid hb
    replace hsec := Lib.hid hsec
    by_cases hlt : n < xs.length
    · obtain ⟨b1, o1, rfl, l1⟩ := e1.out wr hb.out (by omega)
      have k1 := l1.c n hlt
      have k2 := l1.lt
      have hA := Lib.hid (hle.out n hlt (by omega))
      have hln := Lib.hid (take_snoc4 l n (by omega))
      have htl := Lib.hid (show (l.take n).length = n by rw [List.length_take]; omega)
      have hs2 := hsec.out
      have hFr := Lib.hid (hF3.out.below hb.out)
      by_cases hx : 1 ≤ xs[n] ∧ xs[n] < 1013
      · obtain ⟨x1, x2⟩ := hx
        have hsec2 : Hid (∀ j (h : j < xs.length), j < n + 1 → 1 ≤ xs[j] ∧ xs[j] < 1013) := Lib.hid (fun j h hj => by
          by_cases e : j = n
          · subst e; exact ⟨x1, x2⟩
          · exact hs2 j h (by omega))
        clear l1 hs2
        generalize xs[n] = x at *
        generalize l[n] = A at *
        go_wp2_with fail
        refine (key_e x A _ hFr.out x1 x2 hA).mono ?_; rintro e w4 ⟨rfl, hb4⟩
        have ow2 := Lib.hid (own_below hown.out hb4)
        have hB4 := Lib.hid (below_seq hb.out hb4)
        have hs4 := hb4.size
        have hlw := hb.out.size
        clear hown hb4 k1 k2
        go_wp2_with (first | (at_builtin; refine wpl_append_spot2 rfl _ _ _ rfl (by kernel_rfl) w3.heap.size _ (l.take n) n rfl ((ow2.out.alloc _).alloc _) htl.out (by omega) (by simp only [World.size_alloc]; omega) (w4.heap.size + 1) A rfl (by go_simp) (by go_simp) (by go_simp) ?_; intro v' w5 hown' hgrow hbel hloc; replace hown' := Lib.hid hown'; replace hbel := Lib.hid (hbel w3 (balloc (balloc hB4.out _) _)); clear hgrow hloc ow2 hB4) | fail)
        go_wp2
        go_roundw
        case rel => exact ⟨n + 1, _, by omega, by go_num, rfl, hsec2.out, by rw [hln.out]; exact hown'.out, hbel.out⟩
        case measure => simp [intOf]; omega
      · clear l1 hs2 hA hln
        generalize xs[n] = x at *
        go_wp2_with fail
        refine (key_n x _ hx).mono ?_; rintro e w4 ⟨rfl, hb4⟩
        have hB4 := Lib.hid (below_seq hB3'.out (below_seq hb.out hb4))
        clear hb4
        go_wp2
        go_ret
        exact ⟨rfl, by repeat (first | exact hB4.out | refine balloc ?_ _ | refine Below.drew ?_)⟩
    · obtain rfl : n = xs.length := by omega
      obtain ⟨wA, rfl⟩ : ∃ x : World, x = wr := ⟨_, rfl⟩
      have hSp := own_spots (by have := hown.out; rw [List.take_of_length_le (by omega)] at this; exact this) hll.symm
      have hBr := Lib.hid (below_seq hB3'.out hb.out)
      have hFr := hF3.out.below hb.out
      by_cases p0 : at' < 0
      · clear hSp
        go_wp2
        go_ret
        exact ⟨rfl, hBr.out⟩
      obtain ⟨p, rfl⟩ : ∃ p : Nat, at' = (p : Int) := ⟨at'.toNat, by omega⟩
      by_cases p1 : xs.length ≤ p
      · have p2 : (xs.length : Int) ≤ (p : Int) := by omega
        clear hSp
        go_wp2
        go_ret
        exact ⟨rfl, hBr.out⟩
      have hp : p < xs.length := by omega
      have g3 : decide ((xs.length : Int) ≤ (p : Int)) = false := by rw [decide_eq_false_iff_not]; omega
      have g4 : decide (xs.length ≤ p) = false := decide_eq_false p1
      obtain ⟨gk, ck, rfl, -, -⟩ := hown.out.form (by omega)
      obtain ⟨b1, o1, rfl, l1⟩ := e1.out wA hb.out (by omega)
      have k1 := l1.c p hp
      have k2 := l1.lt
      obtain ⟨x1, x2⟩ := hsec.out p hp hp
      have hu : (xs.map (4 * ·)).getD p 0 = 4 * xs[p] := by rw [getD_at (show p < (xs.map (4 * ·)).length by rw [List.length_map]; exact hp), List.getElem_map]
      have hat : Hid (∀ h : p < l.length, l[p] = sq (4 * xs[p])) := Lib.hid (fun h => (hle.out p hp h).symm)
      by_cases hbad : ¬ (xs.length ≤ 12 ∧ t.size ≤ 60 ∧ ss.length = xs.length ∧ (1 ≤ k ∧ k < 1013) ∧ (ss.set p 0).all okR = true)
      · obtain ⟨E, hE⟩ := rsign_no (xs.map (4 * ·)) l ss (some ⟨gk, 0, none⟩) a2 ck c2 t p xs.length xs[p] k _ wA hFr hp hll hlu m1 m2 hz x1 x2 rfl hat hSp (e2.out wA hb.out) hbad
        replace hE := Lib.hid hE
        clear hbad hat hu hSp l1 hsec hown hle hlu e1 e2 e3 hFr hF3 hF'
        generalize xs[p] = x at *
        go_wp2_with fail
        refine hE.out.mono ?_; rintro e w4 ⟨rfl, hb4⟩
        have hB4 := Lib.hid (below_seq hBr.out hb4)
        clear hb4
        go_wp2
        go_ret
        exact ⟨rfl, by repeat (first | exact hB4.out | refine balloc ?_ _ | refine Below.drew ?_)⟩
      obtain ⟨n12, ht, hsl, hk, hss⟩ := Classical.not_not.mp hbad
      have hY := Lib.hid (rsign_all (xs.map (4 * ·)) l ss (.slice (some ⟨gk, 0, none⟩) xs.length ck) (.slice a2 ss.length c2) t p xs.length xs[p] k _ wA hFr hp n12 hll hlu hsl hss ht x1 x2 hk.1 hk.2 hu rfl hat hSp (e2.out wA hb.out))
      have hSp' := Lib.hid hSp
      have hb' := Lib.hid hb.out
      have hFr' := Lib.hid hFr
      clear hbad hat hu hSp l1 hsec hown hle e1 e2 hFr hF3 hF' hss
      replace hsl := Lib.hid hsl
      generalize xs[p] = x at *
      go_wp2_with fail
      refine hY.out.mono ?_; rintro e w4 ⟨C, g, cap, os, rfl, hi, n1, n2, n3, n4, n5, n6, hb4⟩
      have hB4 := Lib.hid (balloc hb4 (.cells #[.int .i64 C, .slice (some ⟨g, 0, none⟩) xs.length cap] 30))
      have hi4 := Lib.hid (hi.below (below_alloc w4 (.cells #[.int .i64 C, .slice (some ⟨g, 0, none⟩) xs.length cap] 30)))
      have hVe := Lib.hid (rverify_e (xs.map (4 * ·)) l os (.slice (some ⟨gk, 0, none⟩) xs.length ck) (.slice (some ⟨g, 0, none⟩) xs.length cap) t C true (w4.alloc (.cells #[.int .i64 C, .slice (some ⟨g, 0, none⟩) xs.length cap] 30)) (hFr'.out.below hB4.out) (by omega) (by omega) hlu (by omega) n2 n3 n4 ht (hSp'.out.below hB4.out) ⟨_, cap, by rw [n1], fun _ => ⟨g, 0, rfl, hi4.out⟩⟩ (Lib.hid (beq_iff_eq.mpr (by rw [hll]; exact n5))))
      replace n6 := Lib.hid n6
      clear hb4 hi n5 hY hSp' hFr'
      go_wp2_with fail
      refine hVe.out.mono ?_; rintro e w5 ⟨rfl, hb5⟩
      have r0 := ((bcell hb5).1 w4.heap.size 0 (by simp)).trans (show (w4.alloc (.cells #[.int .i64 C, .slice (some ⟨g, 0, none⟩) xs.length cap] 30)).cell? ⟨w4.heap.size, 0, none⟩ = some (.int .i64 C) by simp)
      have r1 := ((bcell hb5).1 w4.heap.size 1 (by simp)).trans (show (w4.alloc (.cells #[.int .i64 C, .slice (some ⟨g, 0, none⟩) xs.length cap] 30)).cell? ⟨w4.heap.size, 1, none⟩ = some (.slice (some ⟨g, 0, none⟩) xs.length cap) by simp)
      have r2 : w4.heap.size < w5.heap.size := by have := hb5.size; simp only [World.size_alloc] at this; omega
      have hi5 := Lib.hid (hi4.out.below hb5)
      have hB5 := Lib.hid (below_seq hB4.out hb5)
      have hBz := Lib.hid (below_seq hBr.out hB5.out)
      have g5 : ((xs.length : Int) != (ss.length : Int)) = false := by rw [bne_eq_false_iff_eq, hsl.out]
      have i6 := Lib.hid (fun hp => e3.out w5 (below_seq hb'.out hB5.out) hp)
      clear hb5 hi4 hVe hB4 e3 k1 k2
      go_wp2
      go_loopw [25] (fun i wr => ∃ n : Nat, n ≤ ss.length ∧ i = .int .i64 n ∧ Below w5.heap.size w5 wr) (fun i _ => ss.length - (intOf i).toNat)
      case atStart => exact ⟨0, Nat.zero_le _, rfl, Below.refl _ _⟩
      case round =>
        obtain ⟨n, hn, rfl, hbr⟩ := hrel
        replace hbr := Lib.hid hbr
        by_cases hlt : n < ss.length
        · obtain ⟨b6, o6, rfl, l6⟩ := i6.out (by omega)
          have l7 := l6.below hbr.out
          have q0 := l7.c n hlt
          have q1 := l7.lt
          have l8 := hi5.out.below hbr.out
          have q2 := l8.c n (by have := hsl.out; omega)
          have q3 := l8.lt
          rw [Nat.zero_add] at q2
          have y1 := ((bcell hbr.out).1 _ 1 r2).trans r1
          have y2 := Nat.lt_of_lt_of_le r2 hbr.out.size
          have hlx : (n : Int) < (xs.length : Int) := by have := hsl.out; omega
          by_cases e : n = p
          · have ne1 : ((n : Int) != (p : Int)) = false := by rw [bne_eq_false_iff_eq, e]
            clear l6 l7 l8 r0 r1
            generalize ss[n] = a at *
            generalize (os[n]'(by have := hsl.out; omega)) = b at *
            go_wp2_with fail
            go_quiet (fail)
            go_wp2
            go_roundw
            case rel => exact ⟨n + 1, by omega, by go_num, (by repeat (first | exact hbr.out | refine balloc ?_ _ | refine below_drewN ?_ _ | refine Below.drew ?_))⟩
            case measure => simp [intOf]; omega
          · have ne1 : ((n : Int) != (p : Int)) = true := by rw [bne_iff_ne]; omega
            have hq := n6.out n (by have := hsl.out; omega) e
            rw [getD_at hlt] at hq
            rw [hq] at q2
            clear l6 l7 l8 r0 r1 hq
            generalize ss[n] = a at *
            go_wp2_with fail
            go_quiet (fail)
            go_wp2
            go_roundw
            case rel => exact ⟨n + 1, by omega, by go_num, (by repeat (first | exact hbr.out | refine balloc ?_ _ | refine below_drewN ?_ _ | refine Below.drew ?_))⟩
            case measure => simp [intOf]; omega
        · obtain rfl : n = ss.length := by omega
          go_wp2
          go_ret
          exact ⟨rfl, below_seq hBz.out hbr.out⟩
theorem ringHolds_law (v1 : Value) (at' : Int) (ha : (Lit.int .i64 at').wf = true) (k : Int) (hk : (Lit.int .i64 k).wf = true) (v2 : Value) (t : ByteArray) (hz : t.size ≤ 140737488351232) (w : World) (q1 : IntsV w v1) (hm : ∀ a n c, v1 = .slice a n c → n ≤ 1048576) (q2 : IntsV w v2) (hF : FarAt w) :
    Calls Tryd.prog 3 #[v1, .int .i64 at', .int .i64 k, v2, .string t] w fun e w' => e = .returned (.bool true) ∧ Below w.heap.size w w' := by
  obtain ⟨a, h1, -, -⟩ := q1.sl
  obtain ⟨b, h2, m2, -⟩ := q2.sl
  obtain ⟨aa, cc, e, -⟩ := id h1
  exact rh_all a b v1 v2 at' k t w hF h1 h2 (hm _ _ _ e) m2 hz
end Go.Proofs.YtnlaofapjldciaaDoor
