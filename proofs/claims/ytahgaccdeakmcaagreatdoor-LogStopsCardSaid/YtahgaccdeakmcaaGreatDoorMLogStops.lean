/- Texts of this claim, in one. -/
import Derived.Lib.Fields
import Derived.Lib.AtoiTie
import Derived.Lib.ItoaNum
import Derived.Lib.ItoaLen
import Derived.Lib.ItoaMem
import Derived.Lib.LastIndexLaws
import Derived.Test.YtahgaccdeakmcaaGreatDoorWs
import Derived.Test.YtahgaccdeakmcaaGreatDoorWl
import Derived.Test.YtahgaccdeakmcaaGreatDoorLf
import Derived.Deep.DeepCutAuto
import Derived.Deep.RegionWith
import Derived.Test.YtahgaccdeakmcaaGreatDoorSlf
import Derived.Test.YtahgaccdeakmcaaGreatDoorM2LogStops
import Derived.Test.YtahgaccdeakmcaaGreatDoorWh
import Derived.Lib.AppendIntMem
import Derived.Lib.SmallJoins
import Derived.Deep.DrawnRows
import Derived.BigQuiet
import Derived.Lib.ConvBytes
import Derived.Deep.AppendLies
import Derived.Deep.RegionHeld3
import Derived.RangeFuncNested
import Derived.RangeFuncBound
import Derived.RangeFuncCalls
import Derived.RangeFuncLeaves
import Derived.Shelf.Abstract
import Derived.Shelf.RegionOpen
import Derived.WalkKit
import Derived.OwnWalkIn
import Derived.TacticsInMore
import Derived.LoopNIn
import Derived.LoopIn
import Derived.Deep.CutBlock
import Derived.Test.YtahgaccdeakmcaaGreatDoorWb
import Derived.Test.YtahgaccdeakmcaaGreatDoorWv
import Derived.LaidEql
import Derived.Stop.Asserts
import Derived.RowKitTokens
namespace Go.Proofs.YtahgaccdeakmcaaGreatDoor
open Go.Lib
theorem digf : ∀ d : Fin 10, isSp (UInt8.ofNat (48 + d.val)) = false ∧ digitVal (UInt8.ofNat (48 + d.val)) = some d.val ∧ (UInt8.ofNat (48 + d.val)).toNat < 128 ∧ UInt8.ofNat (48 + d.val) ≠ 10 ∧ UInt8.ofNat (48 + d.val) ≠ 45 ∧ UInt8.ofNat (48 + d.val) ≠ 43 := by decide +kernel
theorem dec_all : ∀ (u : Nat), ∀ b ∈ decDigits u, ∃ d : Fin 10, b = UInt8.ofNat (48 + d.val) := by
  intro u
  induction u using Nat.strongRecOn with
  | _ u ih =>
    intro b hb
    rw [decDigits] at hb
    split at hb
    · rename_i h; rw [List.mem_singleton] at hb; exact ⟨⟨u, h⟩, hb⟩
    · rename_i h
      rw [List.mem_append, List.mem_singleton] at hb
      rcases hb with hb | hb
      · exact ih (u / 10) (by omega) b hb
      · exact ⟨⟨u % 10, Nat.mod_lt _ (by decide)⟩, hb⟩
theorem dec_ne (u : Nat) : decDigits u ≠ [] := fun h => by
  have h1 := decDigits_length u
  have h2 := nDigits_pos u
  rw [h] at h1; simp at h1; omega
theorem decFrom_snoc : ∀ (l : List UInt8) (acc n : Nat) (b : UInt8) (d : Nat), decFrom acc l = some n → digitVal b = some d → decFrom acc (l ++ [b]) = some (n * 10 + d)
  | [], acc, n, b, d, h, hd => by
    simp only [decFrom, Option.some.injEq] at h
    subst h
    simp [decFrom, hd]
  | c :: l, acc, n, b, d, h, hd => by
    simp only [decFrom, List.cons_append] at h ⊢
    split at h
    · exact decFrom_snoc l _ n b d h hd
    · cases h
theorem decFrom_dec : ∀ (u : Nat), decFrom 0 (decDigits u) = some u := by
  intro u
  induction u using Nat.strongRecOn with
  | _ u ih =>
    rw [decDigits]
    split
    · rename_i h
      have hd := (digf ⟨u, h⟩).2.1
      simp only [] at hd
      simp only [decFrom, hd]; simp
    · rename_i h
      have := decFrom_snoc _ 0 _ _ _ (ih (u / 10) (by omega)) (digf ⟨u % 10, Nat.mod_lt _ (by decide)⟩).2.1
      rw [this]; congr 1; simp only []; omega
theorem atoi_dec (u : Nat) : atoi (decDigits u) = some (u : Int) := by
  have h := decFrom_dec u
  have hall := dec_all u
  cases hd : decDigits u with
  | nil => exact absurd hd (dec_ne u)
  | cons b r =>
    rw [hd] at h hall
    obtain ⟨d, hd'⟩ := hall b (List.mem_cons_self)
    obtain ⟨-, -, -, -, h45, h43⟩ := digf d
    rw [← hd'] at h45 h43
    show (if (b == 45) = true then _ else if (b == 43) = true then _ else (decNat (b :: r)).map fun (m : Nat) => (m : Int)) = _
    rw [if_neg (by simpa using h45), if_neg (by simpa using h43)]
    unfold decNat
    rw [if_neg (by simp), h]; rfl
theorem nDigits_le (u : Nat) : ∀ (k : Nat), u < 10 ^ (k + 1) → nDigits u ≤ k + 1 := by
  intro k
  induction k generalizing u with
  | zero => intro h; rw [nDigits_small (by simpa using h)]; exact Nat.le_refl _
  | succ k ih =>
    intro h
    by_cases h10 : u < 10
    · rw [nDigits_small h10]; omega
    · rw [nDigits_big h10]
      have := ih (u / 10) (by rw [Nat.pow_succ] at h; omega)
      omega
theorem atoiAll_dec (u : Nat) (h : u < 1000000000000) : atoiAll (decDigits u) = .ok (u : Int) := by
  rw [atoiAll_short _ (by rw [decDigits_length]; have := nDigits_le u 11 (by omega); omega), atoi_dec]; rfl
/-- Words, each with what ends it. -/
theorem fieldsGo_word (sp : UInt8) (l : List UInt8) (hs : isSp sp = true) : ∀ (w cur : List UInt8), (∀ b ∈ w, isSp b = false) → cur ++ w ≠ [] → fieldsGo cur (w ++ sp :: l) = (cur ++ w) :: fieldsGo [] l
  | [], cur, _, hne => by rw [List.nil_append, fieldsGo_end cur sp l hs (by simpa using hne), List.append_nil]
  | b :: w, cur, hw, _ => by
    rw [List.cons_append, fieldsGo_more cur b _ (hw b List.mem_cons_self), fieldsGo_word sp l hs w (cur ++ [b]) (fun x hx => hw x (List.mem_cons_of_mem _ hx)) (by simp)]
    simp
theorem fields_words : ∀ (l : List (List UInt8 × UInt8)), (∀ p ∈ l, p.1 ≠ [] ∧ (∀ b ∈ p.1, isSp b = false) ∧ isSp p.2 = true) → fields (l.map fun p => p.1 ++ [p.2]).flatten = l.map (·.1)
  | [], _ => rfl
  | p :: l, h => by
    obtain ⟨h1, h2, h3⟩ := h p List.mem_cons_self
    have ih := fields_words l (fun x hx => h x (List.mem_cons_of_mem _ hx))
    rw [List.map_cons, List.flatten_cons, List.map_cons, List.append_assoc]
    show fieldsGo [] (p.1 ++ p.2 :: _) = _
    rw [fieldsGo_word p.2 _ h3 p.1 [] h2 (by simpa using h1), List.nil_append]
    exact congrArg _ ih
/-- The record of numbers: a blank behind each but the last, behind which a line's end. -/
def numsB (l : List Nat) : List UInt8 := (l.map fun n => decDigits n ++ [32]).flatten
def recB (G K : List Nat) (r s : Nat) : List UInt8 := numsB (G.length :: G) ++ numsB (K.length :: K) ++ decDigits r ++ [32] ++ decDigits s ++ [10]
def recW (G K : List Nat) (r s : Nat) : List Nat := (G.length :: G) ++ (K.length :: K) ++ [r, s]
theorem recB_fields (G K : List Nat) (r s : Nat) : fields (recB G K r s) = (recW G K r s).map decDigits := by
  have h := fields_words ((((G.length :: G) ++ (K.length :: K) ++ [r]).map fun n => (decDigits n, (32 : UInt8))) ++ [(decDigits s, (10 : UInt8))]) (fun p hp => by
    have : ∃ n, p.1 = decDigits n ∧ (p.2 = 32 ∨ p.2 = 10) := by
      rw [List.mem_append, List.mem_map, List.mem_singleton] at hp
      rcases hp with ⟨n, -, rfl⟩ | rfl
      · exact ⟨n, rfl, .inl rfl⟩
      · exact ⟨s, rfl, .inr rfl⟩
    obtain ⟨n, e, h2⟩ := this
    rw [e]
    refine ⟨dec_ne n, fun b hb => ?_, by rcases h2 with h2 | h2 <;> rw [h2] <;> decide⟩
    obtain ⟨d, rfl⟩ := dec_all n b hb
    exact (digf d).1)
  have e1 : (((((G.length :: G) ++ (K.length :: K) ++ [r]).map fun n => (decDigits n, (32 : UInt8))) ++ [(decDigits s, (10 : UInt8))]).map fun p => p.1 ++ [p.2]).flatten = recB G K r s := by
    unfold recB numsB
    simp only [List.map_append, List.map_map, List.map_cons, List.map_nil, List.flatten_append, List.flatten_cons, List.flatten_nil, List.append_assoc, List.cons_append, List.nil_append, List.append_nil]
    rfl
  rw [e1] at h
  rw [h]
  unfold recW
  simp only [List.map_append, List.map_map, List.map_cons, List.map_nil, List.append_assoc, List.cons_append, List.nil_append]
  rfl
theorem recB_ascii (G K : List Nat) (r s : Nat) : ∀ b ∈ recB G K r s, b.toNat < 128 := by
  have hd : ∀ n, ∀ b ∈ decDigits n, b.toNat < 128 := fun n b hb => by obtain ⟨d, rfl⟩ := dec_all n b hb; exact (digf d).2.2.1
  have hn : ∀ l, ∀ b ∈ numsB l, b.toNat < 128 := fun l b hb => by
    unfold numsB at hb
    rw [List.mem_flatten] at hb
    obtain ⟨x, hx, hb⟩ := hb
    rw [List.mem_map] at hx
    obtain ⟨n, -, rfl⟩ := hx
    rw [List.mem_append, List.mem_singleton] at hb
    rcases hb with hb | rfl
    · exact hd n b hb
    · decide
  intro b hb
  unfold recB at hb
  simp only [List.mem_append, List.mem_singleton] at hb
  rcases hb with ((((hb | hb) | hb) | rfl) | hb) | rfl
  · exact hn _ b hb
  · exact hn _ b hb
  · exact hd _ b hb
  · decide
  · exact hd _ b hb
  · decide
/-- A record is a line: one line's end, at its end. -/
def LineB (l : List UInt8) : Prop := ∃ b, l = b ++ [10] ∧ ∀ x ∈ b, x ≠ 10
theorem recB_line (G K : List Nat) (r s : Nat) : LineB (recB G K r s) := by
  have hd : ∀ n, ∀ b ∈ decDigits n, b ≠ 10 := fun n b hb => by obtain ⟨d, rfl⟩ := dec_all n b hb; exact (digf d).2.2.2.1
  have hn : ∀ l, ∀ b ∈ numsB l, b ≠ 10 := fun l b hb => by
    unfold numsB at hb
    rw [List.mem_flatten] at hb
    obtain ⟨x, hx, hb⟩ := hb
    rw [List.mem_map] at hx
    obtain ⟨n, -, rfl⟩ := hx
    rw [List.mem_append, List.mem_singleton] at hb
    rcases hb with hb | rfl
    · exact hd n b hb
    · decide
  refine ⟨_, rfl, fun b hb => ?_⟩
  simp only [List.mem_append, List.mem_singleton] at hb
  rcases hb with (((hb | hb) | hb) | rfl) | hb
  · exact hn _ b hb
  · exact hn _ b hb
  · exact hd _ b hb
  · decide
  · exact hd _ b hb
theorem numsB_len (l : List Nat) (h : ∀ n ∈ l, n < 1000000) : (numsB l).length ≤ 7 * l.length := by
  unfold numsB
  induction l with
  | nil => simp
  | cons a l ih =>
    have h1 := ih (fun n hn => h n (List.mem_cons_of_mem _ hn))
    have h2 := nDigits_le a 5 (by have := h a List.mem_cons_self; omega)
    simp only [List.map_cons, List.flatten_cons, List.length_append, List.length_cons, List.length_nil, decDigits_length] at h1 ⊢
    omega
theorem recB_len (G K : List Nat) (r s : Nat) (hG : ∀ n ∈ G, n < 1000000) (hK : ∀ n ∈ K, n < 1000000) (hg : G.length ≤ 1000) (hk : K.length ≤ 1000) (hr : r < 1000000) (hs : s < 1000000) : 2 ≤ (recB G K r s).length ∧ (recB G K r s).length ≤ 20000 := by
  have a1 := numsB_len (G.length :: G) (fun n hn => by rcases List.mem_cons.1 hn with h | h <;> first | omega | exact hG n h)
  have a2 := numsB_len (K.length :: K) (fun n hn => by rcases List.mem_cons.1 hn with h | h <;> first | omega | exact hK n h)
  have a3 := nDigits_le r 5 (by omega)
  have a4 := nDigits_le s 5 (by omega)
  unfold recB
  simp only [List.length_append, List.length_cons, List.length_nil, decDigits_length] at a1 a2 ⊢
  omega
/-- A text line by line: as strings.Lines gives it. -/
def linesGo : List UInt8 → List UInt8 → List (List UInt8)
  | cur, [] => if cur.isEmpty then [] else [cur]
  | cur, b :: l => if b = 10 then (cur ++ [b]) :: linesGo [] l else linesGo (cur ++ [b]) l
def linesL (s : List UInt8) : List (List UInt8) := linesGo [] s
theorem linesGo_word (l : List UInt8) : ∀ (w cur : List UInt8), (∀ b ∈ w, b ≠ 10) → linesGo cur (w ++ 10 :: l) = (cur ++ w ++ [10]) :: linesGo [] l
  | [], cur, _ => by simp [linesGo]
  | b :: w, cur, hw => by
    rw [List.cons_append, linesGo, if_neg (hw b List.mem_cons_self), linesGo_word l w (cur ++ [b]) (fun x hx => hw x (List.mem_cons_of_mem _ hx))]
    simp
theorem linesGo_last : ∀ (w cur : List UInt8), (∀ b ∈ w, b ≠ 10) → linesGo cur w = if (cur ++ w).isEmpty then [] else [cur ++ w]
  | [], cur, _ => by simp [linesGo]
  | b :: w, cur, hw => by
    rw [linesGo, if_neg (hw b List.mem_cons_self), linesGo_last w (cur ++ [b]) (fun x hx => hw x (List.mem_cons_of_mem _ hx))]
    simp
theorem linesL_cons (w l : List UInt8) (hw : ∀ b ∈ w, b ≠ 10) : linesL (w ++ 10 :: l) = (w ++ [10]) :: linesL l := by
  unfold linesL; rw [linesGo_word l w [] hw, List.nil_append]
theorem linesL_last (w : List UInt8) (hw : ∀ b ∈ w, b ≠ 10) (h : w ≠ []) : linesL w = [w] := by
  unfold linesL
  rw [linesGo_last w [] hw, List.nil_append, if_neg (by simpa using h)]
theorem linesL_recs : ∀ (L : List (List UInt8)), (∀ l ∈ L, LineB l) → linesL L.flatten = L
  | [], _ => rfl
  | l :: L, h => by
    obtain ⟨b, rfl, hb⟩ := h l List.mem_cons_self
    have ih := linesL_recs L (fun x hx => h x (List.mem_cons_of_mem _ hx))
    rw [List.flatten_cons, List.append_assoc, List.singleton_append, linesL_cons b _ hb, ih]
/-- The last line's end. -/
theorem last_nl (X Y : List UInt8) (hX : X = [] ∨ ∃ Z, X = Z ++ [10]) (hY : ∀ b ∈ Y, b ≠ 10) : lastIndex (X ++ Y) [10] + 1 = (X.length : Int) := by
  have hocc : ∀ j, occAt (X ++ Y) [10] j = true ↔ (X ++ Y)[j]? = some 10 := fun j => by
    unfold occAt
    simp only [List.isPrefixOf_iff_prefix]
    rw [← List.head?_drop]
    cases h : (X ++ Y).drop j with
    | nil => simp
    | cons a t => simp [eq_comm]
  by_cases h0 : 1 ≤ (X ++ Y).length
  · unfold lastIndex
    rw [if_pos (by simpa using h0)]
    have hk : (X ++ Y).length - [(10 : UInt8)].length + 1 = (X ++ Y).length := by simp at h0 ⊢; omega
    rw [hk]
    rcases lastOcc_spec (X ++ Y) [10] (X ++ Y).length with ⟨h1, h2⟩ | ⟨i, hi, h1, h2, h3⟩
    · rcases hX with rfl | ⟨Z, rfl⟩
      · rw [h1]; simp
      · have := h2 Z.length (by simp)
        have h4 := (hocc Z.length).2 (by simp)
        rw [h4] at this; cases this
    · rw [h1]
      have h5 := (hocc i).1 h2
      rcases hX with rfl | ⟨Z, rfl⟩
      · rw [List.nil_append] at h5
        exact absurd rfl (hY 10 (List.mem_of_getElem? h5))
      · by_cases hlt : i < (Z ++ [10]).length
        · by_cases e : i = Z.length
          · subst e; simp
          · have := h3 Z.length (by simp at hlt; omega) (by simp)
            have h4 := (hocc Z.length).2 (by simp)
            rw [h4] at this; cases this
        · rw [List.getElem?_append_right (by omega)] at h5
          exact absurd rfl (hY 10 (List.mem_of_getElem? h5))
  · have : X = [] ∧ Y = [] := by
      have : (X ++ Y).length = 0 := by omega
      simpa using this
    obtain ⟨rfl, rfl⟩ := this
    decide
/-- How many whole records lie in the first n bytes. -/
def keepN : List (List UInt8) → Nat → Nat
  | [], _ => 0
  | l :: L, n => if l.length ≤ n then keepN L (n - l.length) + 1 else 0
theorem keepN_le : ∀ (L : List (List UInt8)) (n : Nat), keepN L n ≤ L.length
  | [], _ => Nat.le_refl _
  | l :: L, n => by
    unfold keepN
    split
    · have := keepN_le L (n - l.length); simp; omega
    · simp
theorem cut_nl : ∀ (L : List (List UInt8)) (hf : List UInt8) (n : Nat), (∀ l ∈ L, LineB l) → (∀ b ∈ hf, b ≠ 10) → ∃ Y, (L.flatten ++ hf).take n = (L.take (keepN L n)).flatten ++ Y ∧ (∀ b ∈ Y, b ≠ 10)
  | [], hf, n, _, hh => ⟨hf.take n, by simp [keepN], fun b hb => hh b (List.mem_of_mem_take hb)⟩
  | l :: L, hf, n, hL, hh => by
    unfold keepN
    split
    · rename_i hn
      obtain ⟨Y, h1, h2⟩ := cut_nl L hf (n - l.length) (fun x hx => hL x (List.mem_cons_of_mem _ hx)) hh
      refine ⟨Y, ?_, h2⟩
      rw [List.take_succ_cons, List.flatten_cons, List.flatten_cons, List.append_assoc, List.append_assoc, ← h1, List.take_append, List.take_of_length_le hn]
    · rename_i hn
      obtain ⟨b, rfl, hb⟩ := hL l List.mem_cons_self
      refine ⟨b.take n, ?_, fun x hx => hb x (List.mem_of_mem_take hx)⟩
      simp only [List.length_append, List.length_cons, List.length_nil] at hn
      rw [List.take_zero, List.flatten_nil, List.nil_append, List.flatten_cons, List.append_assoc, List.append_assoc, List.take_append_of_le_length (by omega)]
theorem flat_end : ∀ (L : List (List UInt8)), (∀ l ∈ L, LineB l) → L.flatten = [] ∨ ∃ Z, L.flatten = Z ++ [10] := by
  intro L
  induction L with
  | nil => intro _; exact .inl rfl
  | cons l L ih =>
    intro h
    obtain ⟨b, rfl, -⟩ := h l List.mem_cons_self
    rcases ih (fun x hx => h x (List.mem_cons_of_mem _ hx)) with e | ⟨Z, e⟩
    · exact .inr ⟨b, by rw [List.flatten_cons, e, List.append_nil]⟩
    · exact .inr ⟨b ++ [10] ++ Z, by rw [List.flatten_cons, e, List.append_assoc (b ++ [10])]⟩
theorem crash_cut (L : List (List UInt8)) (hf : List UInt8) (n : Nat) (hL : ∀ l ∈ L, LineB l) (hh : ∀ b ∈ hf, b ≠ 10) :
    lastIndex ((L.flatten ++ hf).take n) [10] + 1 = (((L.take (keepN L n)).flatten.length : Nat) : Int) ∧ ((L.flatten ++ hf).take n).take (L.take (keepN L n)).flatten.length = (L.take (keepN L n)).flatten := by
  obtain ⟨Y, h1, h2⟩ := cut_nl L hf n hL hh
  rw [h1]
  refine ⟨last_nl _ Y (flat_end _ (fun l hl => hL l (List.mem_of_mem_take hl))) h2, List.take_left⟩
end Go.Proofs.YtahgaccdeakmcaaGreatDoor
namespace Go.Proofs.YtahgaccdeakmcaaGreatDoor
open Go.RowKit
set_option maxRecDepth 100000
set_option linter.unusedVariables false
set_option linter.unusedSimpArgs false
def LiftIs (x : Int) (L : Sp) (E : Value) : Prop := ∀ w : World, Calls Tryz.prog 51 #[.int .i64 x] w fun e w' => e = .returned (.tuple #[spV L, E]) ∧ Below w.heap.size w w'
theorem wrap_two (c d : UInt8) : IntKind.i64.wrap (IntKind.i64.wrap (IntKind.i64.wrap (c.toNat : Int) * 256) + IntKind.i64.wrap (d.toNat : Int)) = (c.toNat : Int) * 256 + (d.toNat : Int) := by
  have := c.toNat_lt; have := d.toNat_lt
  rw [IntWalk.i64_in (c.toNat : Int) (by omega), IntWalk.i64_in (d.toNat : Int) (by omega), IntWalk.i64_in ((c.toNat : Int) * 256) (by omega), IntWalk.i64_in _ (by omega)]
/-- What Unpack makes of three bytes whose place lifts to L, with error E. -/
def unS (c0 : UInt8) (L : Sp) : Sp := if c0.toNat = 2 then sTurned L else L
set_option maxHeartbeats 2000000 in
theorem unpack_core (c0 c1 c2 : UInt8) (w : World) (L : Sp) (E R : Value) (hF : FarAt w) (h : LiftIs ((c1.toNat : Int) * 256 + (c2.toNat : Int)) L E)
    (hbad : Hid (∀ k, E = .iface 94 (.int .i64 k) → R = .tuple #[spV ⟨0, 0, false⟩, .iface 94 (.int .i64 2)]))
    (hE : Hid ((E = .nilIface ∧ Ok L) ∨ ∃ k, E = .iface 94 (.int .i64 k)))
    (hok : Hid (E = .nilIface → R = if ((sBytes (unS c0 L)).toList == [c0, c1, c2]) = true then .tuple #[spV (unS c0 L), .nilIface] else .tuple #[spV ⟨0, 0, false⟩, .iface 94 (.int .i64 2)])) :
    Calls Tryz.prog 183 #[.string ⟨#[c0, c1, c2]⟩] w fun e w' => e = .returned R ∧ Below w.heap.size w w' := by
  have hw := Lib.hid (wrap_two c1 c2)
  go_enter Tryz.func183, Tryz.ntmps183
  go_upto_region 5 with fail
  go_cut [4, 5] (fun s4 s5 wx => ∃ g : Nat, s4 = .pointer (some ⟨g, 0, none⟩) ∧ s5 = E ∧ Below w.heap.size w wx ∧ SpAt wx w.heap.size ⟨0, 0, false⟩ ∧ SpAt wx g L ∧ w.heap.size < g)
  case first =>
    go_region_with (first | (go_at_call 51; change Calls _ _ #[.int .i64 (IntKind.i64.wrap (IntKind.i64.wrap (IntKind.i64.wrap (c1.toNat : Int) * 256) + IntKind.i64.wrap (c2.toNat : Int)))] _ _; rw [hw.out]; refine (h _).mono ?_; rintro e w1 ⟨rfl, hb⟩; obtain ⟨hc, hf⟩ := bcell hb))
    all_goals
      go_wp2_with fail
      go_meet
      have hz := hb.size
      simp only [World.size_alloc, World.size_drew] at hz
      refine ⟨_, rfl, rfl, ?_, ?_, ?_, ?_⟩
      · have hB1 : Below w.heap.size w w1 := below_seq (by repeat (first | exact Below.refl _ _ | refine balloc ?_ _ | refine Below.drew ?_)) hb
        repeat (first | exact hB1 | refine balloc ?_ _ | refine below_set ?_ (by first | omega | (dsimp only; omega)) _)
      · repeat (first | exact SpAt.fresh _ _ _ _ _ | exact SpAt.fresh1 _ _ _ _ _ _ | refine SpAt.set3 (s := ⟨0, 0, false⟩) ?_ _ | refine SpAt.set3o ?_ (by omega) _ _ _ | refine SpAt.drew ?_ | refine SpAt.alloc ?_ _ | refine SpAt.below ?_ hb)
      · repeat (first | exact SpAt.fresh _ _ _ _ _ | exact SpAt.fresh1 _ _ _ _ _ _ | refine SpAt.set3 (s := ⟨0, 0, false⟩) ?_ _ | refine SpAt.set3o ?_ (by omega) _ _ _ | refine SpAt.drew ?_ | refine SpAt.alloc ?_ _ | refine SpAt.below ?_ hb)
      · omega
  case rest =>
    obtain ⟨g, rfl, rfl, hB, hr, hg, hlt⟩ := hcut
    rcases hE.out with ⟨rfl, hL⟩ | ⟨k, rfl⟩
    · have hg' := hg
      obtain ⟨g0, g1, g2, fg0, fg1, fg2, hgl⟩ := hg'
      go_wp2_with fail
      · refine (turned_k L _ hL).mono ?_; rintro e w2 ⟨rfl, hb⟩
        have hg2 := hg.below hb
        have hr2 := hr.below hb
        have hB2 := below_seq hB hb
        clear g0 g1 g2 fg0 fg1 fg2 hgl hg hr hb hB
        have hg' := hg2
        obtain ⟨g0, g1, g2, fg0, fg1, fg2, hgl⟩ := hg'
        go_wp2_with fail
        refine (bytesOf_c (sTurned L) _ (turned_ok hL).1).mono ?_; rintro e w3 ⟨rfl, hb⟩
        have hg3 := (hg2.set3 (sTurned L)).below hb
        have hr3 := (hr2.set3o (by omega) _ _ _).below hb
        have hB3 := below_seq (set3_below hB2 (by omega)) hb
        clear g0 g1 g2 fg0 fg1 fg2 hgl hg2 hr2 hb hB2
        obtain ⟨g0, g1, g2, fg0, fg1, fg2, hgl⟩ := hg3
        obtain ⟨r0, r1, r2, fr0, fr1, fr2, hrl⟩ := hr3
        have eS0 : unS c0 L = sTurned L := by
          have q : ((c0.toNat : Int) == 2) = true := by assumption
          unfold unS; rw [if_pos (by simp at q; omega)]
        have eS := Lib.hid eS0
        clear eS0
        have ho := Lib.hid (hok.out trivial)
        clear hbad hE h
        go_wp2
        · rename_i hq
          have hR : R = .tuple #[spV ⟨0, 0, false⟩, .iface 94 (.int .i64 2)] := by rw [ho.out, eS.out, if_neg (by simpa using hq)]
          have k := set3_cell (w := w3) (x := .int .i64 0) (y := .int .i64 0) (z := .bool false) r0 r1 r2
          rw [hR]
          refine bodyPost_ret (v := .tuple #[spV ⟨0, 0, false⟩, .iface 94 (.int .i64 2)]) (by simp [results, Tryz.results183, go_sem, k.1, k.2.1, k.2.2]) rfl ⟨rfl, set3_below hB3 (by omega)⟩
        · rename_i hq
          have hR : R = .tuple #[spV (sTurned L), .nilIface] := by rw [ho.out, eS.out, if_pos (by simpa using hq)]
          have k := set3_cell (w := w3) (x := .int .i64 (sTurned L).x) (y := .int .i64 (sTurned L).y) (z := .bool (sTurned L).far) r0 r1 r2
          rw [hR]
          refine bodyPost_ret (v := .tuple #[spV (sTurned L), .nilIface]) (by simp [results, Tryz.results183, go_sem, k.1, k.2.1, k.2.2]) rfl ⟨rfl, set3_below hB3 (by omega)⟩
      · refine (bytesOf_c L _ hL).mono ?_; rintro e w3 ⟨rfl, hb⟩
        have hg3 := hg.below hb
        have hr3 := hr.below hb
        have hB3 := below_seq hB hb
        clear g0 g1 g2 fg0 fg1 fg2 hgl hg hr hb hB
        obtain ⟨g0, g1, g2, fg0, fg1, fg2, hgl⟩ := hg3
        obtain ⟨r0, r1, r2, fr0, fr1, fr2, hrl⟩ := hr3
        have eS0 : unS c0 L = L := by
          have q : ((c0.toNat : Int) == 2) = false := by assumption
          unfold unS; rw [if_neg (by simp at q; omega)]
        have eS := Lib.hid eS0
        clear eS0
        have ho := Lib.hid (hok.out trivial)
        clear hbad hE h
        go_wp2
        · rename_i hq
          have hR : R = .tuple #[spV ⟨0, 0, false⟩, .iface 94 (.int .i64 2)] := by rw [ho.out, eS.out, if_neg (by simpa using hq)]
          have k := set3_cell (w := w3) (x := .int .i64 0) (y := .int .i64 0) (z := .bool false) r0 r1 r2
          rw [hR]
          refine bodyPost_ret (v := .tuple #[spV ⟨0, 0, false⟩, .iface 94 (.int .i64 2)]) (by simp [results, Tryz.results183, go_sem, k.1, k.2.1, k.2.2]) rfl ⟨rfl, set3_below hB3 (by omega)⟩
        · rename_i hq
          have hR : R = .tuple #[spV (L), .nilIface] := by rw [ho.out, eS.out, if_pos (by simpa using hq)]
          have k := set3_cell (w := w3) (x := .int .i64 (L).x) (y := .int .i64 (L).y) (z := .bool (L).far) r0 r1 r2
          rw [hR]
          refine bodyPost_ret (v := .tuple #[spV (L), .nilIface]) (by simp [results, Tryz.results183, go_sem, k.1, k.2.1, k.2.2]) rfl ⟨rfl, set3_below hB3 (by omega)⟩
    · have hR := Lib.hid (hbad.out k rfl)
      obtain ⟨r0, r1, r2, fr0, fr1, fr2, hrl⟩ := hr
      clear hg
      go_wp2
      have k := set3_cell (w := wc) (x := .int .i64 0) (y := .int .i64 0) (z := .bool false) r0 r1 r2
      rw [hR.out]
      refine bodyPost_ret (v := .tuple #[spV ⟨0, 0, false⟩, .iface 94 (.int .i64 2)]) (by simp [results, Tryz.results183, go_sem, k.1, k.2.1, k.2.2]) rfl ⟨rfl, set3_below hB (by omega)⟩
end Go.Proofs.YtahgaccdeakmcaaGreatDoor
namespace Go.Proofs.YtahgaccdeakmcaaGreatDoor
open Go.RowKit
set_option maxRecDepth 100000
set_option linter.unusedVariables false
set_option linter.unusedSimpArgs false
set_option maxHeartbeats 1000000 in
theorem unpack_far (w : World) (hF : FarAt w) : Calls Tryz.prog 183 #[.string ⟨#[0]⟩] w fun e w' => e = .returned (.tuple #[spV sFar, .nilIface]) ∧ Below w.heap.size w w' := by
  obtain ⟨c0, c1, c2, hlt⟩ := hF
  go_enter Tryz.func183, Tryz.ntmps183
  go_wp2
  refine bodyPost_ret (v := .tuple #[spV sFar, .nilIface]) (by simp [results, Tryz.results183, go_sem, sFar]) rfl ⟨rfl, ?_⟩
  repeat (first | exact Below.refl _ _ | refine balloc ?_ _)
set_option maxHeartbeats 1000000 in
theorem unpack_len (b : ByteArray) (w : World) (h1 : (b.toList == [0]) = false) (h2 : ((b.size : Int) != 3) = true) (hz : b.size ≤ 140737488351232) : Calls Tryz.prog 183 #[.string b] w fun e w' => e = .returned (.tuple #[spV ⟨0, 0, false⟩, .iface 94 (.int .i64 2)]) ∧ Below w.heap.size w w' := by
  go_enter Tryz.func183, Tryz.ntmps183
  go_wp2
  refine bodyPost_ret (v := .tuple #[spV ⟨0, 0, false⟩, .iface 94 (.int .i64 2)]) (by simp [results, Tryz.results183, go_sem]) rfl ⟨rfl, ?_⟩
  repeat (first | exact Below.refl _ _ | refine balloc ?_ _)
def unpackR : List UInt8 → Option Sp
  | [c] => if c = 0 then some sFar else none
  | [c0, c1, c2] => if inside ((c1.toNat : Int) * 256 + (c2.toNat : Int)) = true ∧ isSq (height ((c1.toNat : Int) * 256 + (c2.toNat : Int))) = true then
      (if ((sBytes (unS c0 (lifted ((c1.toNat : Int) * 256 + (c2.toNat : Int))))).toList == [c0, c1, c2]) = true then some (unS c0 (lifted ((c1.toNat : Int) * 256 + (c2.toNat : Int)))) else none) else none
  | _ => none
theorem unpackR_three (c0 c1 c2 : UInt8) : unpackR [c0, c1, c2] = if inside ((c1.toNat : Int) * 256 + (c2.toNat : Int)) = true ∧ isSq (height ((c1.toNat : Int) * 256 + (c2.toNat : Int))) = true then
      (if ((sBytes (unS c0 (lifted ((c1.toNat : Int) * 256 + (c2.toNat : Int))))).toList == [c0, c1, c2]) = true then some (unS c0 (lifted ((c1.toNat : Int) * 256 + (c2.toNat : Int)))) else none) else none := rfl
def unV : Option Sp → Value
  | some s => .tuple #[spV s, .nilIface]
  | none => .tuple #[spV ⟨0, 0, false⟩, .iface 94 (.int .i64 2)]
theorem unpack_c (b : ByteArray) (w : World) (hF : FarAt w) (hz : b.size ≤ 140737488351232) : Calls Tryz.prog 183 #[.string b] w fun e w' => e = .returned (unV (unpackR b.data.toList)) ∧ Below w.heap.size w w' := by
  obtain ⟨⟨l⟩⟩ := b
  have len : (⟨⟨l⟩⟩ : ByteArray).size = l.length := rfl
  have tl : (⟨⟨l⟩⟩ : ByteArray).toList = l := by rw [ByteArray.toList_eq]
  by_cases h1 : l = [0]
  · subst h1; exact unpack_far w hF
  by_cases h3 : l.length = 3
  · match l, h3 with
    | [c0, c1, c2], _ =>
      have hlt1 := c1.toNat_lt; have hlt2 := c2.toNat_lt
      by_cases hi : inside ((c1.toNat : Int) * 256 + (c2.toNat : Int)) = true
      · by_cases hs : isSq (height ((c1.toNat : Int) * 256 + (c2.toNat : Int))) = true
        · refine unpack_core c0 c1 c2 w (lifted ((c1.toNat : Int) * 256 + (c2.toNat : Int))) .nilIface _ hF (fun w => lift_yes _ w hi hs) (fun k e => by cases e) (Or.inl ⟨rfl, lifted_ok hi hs⟩) (fun _ => ?_)
          show unV (unpackR [c0, c1, c2]) = _
          rw [unpackR_three]; rw [if_pos ⟨hi, hs⟩]; split <;> rfl
        · refine unpack_core c0 c1 c2 w ⟨0, 0, false⟩ (.iface 94 (.int .i64 5)) _ hF (fun w => lift_no _ w hi (by simpa using hs)) (fun k e => ?_) (Or.inr ⟨5, rfl⟩) (fun e => by cases e)
          show unV (unpackR [c0, c1, c2]) = _
          rw [unpackR_three]; rw [if_neg (fun h => hs h.2)]; rfl
      · refine unpack_core c0 c1 c2 w ⟨0, 0, false⟩ (.iface 94 (.int .i64 1)) _ hF (fun w => lift_out _ w (by simpa using hi)) (fun k e => ?_) (Or.inr ⟨1, rfl⟩) (fun e => by cases e)
        show unV (unpackR [c0, c1, c2]) = _
        rw [unpackR_three]; rw [if_neg (fun h => hi h.1)]; rfl
  · have e : unpackR l = none := by
      match l, h1, h3 with
      | [], _, _ => rfl
      | [c], h, _ => show (if c = 0 then some sFar else none) = none; rw [if_neg (fun e => h (by rw [e]))]
      | [_, _], _, _ => rfl
      | [_, _, _], _, h => exact absurd rfl h
      | _ :: _ :: _ :: _ :: _, _, _ => rfl
    have := unpack_len ⟨⟨l⟩⟩ w (by rw [tl]; simpa using h1) (by rw [len]; rw [bne_iff_ne]; omega) hz
    rw [show unpackR (⟨⟨l⟩⟩ : ByteArray).data.toList = none from e]
    exact this
end Go.Proofs.YtahgaccdeakmcaaGreatDoor
namespace Go.Proofs.YtahgaccdeakmcaaGreatDoor
open Go.RowKit
set_option maxRecDepth 100000
set_option linter.unusedVariables false
set_option linter.unusedSimpArgs false
/-- Two bytes of a place are it again. -/
theorem two_bytes {x : Int} (h0 : 0 ≤ x) (h1 : x < 4051) : ((UInt8.ofNat (x / 256).toNat).toNat : Int) * 256 + ((UInt8.ofNat (x % 256).toNat).toNat : Int) = x := by
  rw [UInt8.toNat_ofNat', UInt8.toNat_ofNat']; omega
theorem sBytes_far {s : Sp} (hf : s.far = true) : (sBytes s).data.toList = [0] := by unfold sBytes; rw [if_pos hf]
theorem sBytes_big {s : Sp} (hf : s.far = false) (hy : pOf (-s.y) < s.y) : (sBytes s).data.toList = [2, UInt8.ofNat (s.x / 256).toNat, UInt8.ofNat (s.x % 256).toNat] := by
  unfold sBytes; rw [if_neg (by rw [hf]; decide), if_pos hy, strOfNums_data]; rfl
theorem sBytes_small {s : Sp} (hf : s.far = false) (hy : ¬ pOf (-s.y) < s.y) : (sBytes s).data.toList = [1, UInt8.ofNat (s.x / 256).toNat, UInt8.ofNat (s.x % 256).toNat] := by
  unfold sBytes; rw [if_neg (by rw [hf]; decide), if_neg hy, strOfNums_data]; rfl
theorem unpack_sBytes {s : Sp} (h : Ok s) : unpackR (sBytes s).data.toList = some s := by
  cases hf : s.far
  · have hx := two_bytes h.x0 h.x1
    have hs := ok_isSq h hf
    by_cases hy : pOf (-s.y) < s.y
    · rw [sBytes_big hf hy, unpackR_three, hx, if_pos ⟨h.ins, hs⟩]
      have e : unS 2 (lifted s.x) = s := by unfold unS; rw [if_pos (by decide)]; exact (lifted_gt h hf hy).symm
      rw [e, if_pos]; rw [ByteArray.toList_eq, sBytes_big hf hy]; simp
    · rw [sBytes_small hf hy, unpackR_three, hx, if_pos ⟨h.ins, hs⟩]
      have e : unS 1 (lifted s.x) = s := by unfold unS; rw [if_neg (by decide)]; exact (lifted_le h hf (by omega)).symm
      rw [e, if_pos]; rw [ByteArray.toList_eq, sBytes_small hf hy]; simp
  · rw [sBytes_far hf]; show (if (0 : UInt8) = 0 then some sFar else none) = some s
    rw [if_pos rfl, h.far_eq hf]
theorem unpack_some {l : List UInt8} {s : Sp} (h : unpackR l = some s) : Ok s ∧ (sBytes s).data.toList = l := by
  match l, h with
  | [c], h =>
    have h : (if c = 0 then some sFar else none) = some s := h
    split at h
    · rename_i e; cases h; exact ⟨ok_far, by rw [sBytes_far rfl, e]⟩
    · cases h
  | [c0, c1, c2], h =>
    rw [unpackR_three] at h
    split at h
    · rename_i hi
      split at h
      · rename_i he
        have hl := lifted_ok hi.1 hi.2
        rw [ByteArray.toList_eq] at he
        cases h
        refine ⟨?_, by simpa using he⟩
        unfold unS; split
        · exact (turned_ok hl).1
        · exact hl
      · cases h
    · cases h
  | [], h => cases h
  | [_, _], h => cases h
  | _ :: _ :: _ :: _ :: _, h => cases h
theorem bytes_ext {a b : ByteArray} (h : a.data.toList = b.data.toList) : a = b := by
  obtain ⟨⟨x⟩⟩ := a; obtain ⟨⟨y⟩⟩ := b; simp only at h; rw [h]
theorem sBytes_inj {s t : Sp} (hs : Ok s) (ht : Ok t) (h : sBytes s = sBytes t) : s = t := by
  have := unpack_sBytes hs; rw [h, unpack_sBytes ht] at this; exact (Option.some.inj this).symm
end Go.Proofs.YtahgaccdeakmcaaGreatDoor
namespace Go.Proofs.YtahgaccdeakmcaaGreatDoor
open Go.RowKit
set_option maxRecDepth 100000
set_option linter.unusedVariables false
set_option linter.unusedSimpArgs false
attribute [local go_sem ↓] Go.wp_at_zero Go.wp_at_succ
/-- Bytes as a string. -/
def bS (l : List UInt8) : ByteArray := ⟨l.toArray⟩
theorem bS_app (a b : List UInt8) : bS a ++ bS b = bS (a ++ b) := by
  have : (bS a ++ bS b).data = (bS (a ++ b)).data := by rw [ByteArray.data_append]; simp [bS]
  exact ByteArray.ext this
theorem bS_size (l : List UInt8) : (bS l).size = l.length := by simp [bS, ByteArray.size]
theorem bS_list (l : List UInt8) : (bS l).data.toList = l := by simp [bS]
def TenAt (w : World) : Prop := Lib.TabIs Tryz.prog w "internal/strconv.uint64pow10" .u64 Lib.pow10Tab
theorem TenAt.below {w w' : World} (h : TenAt w) (hb : Below w.heap.size w w') : TenAt w' := Joins.tab_stays (g := 7) (by kernel_rfl) h hb (Nat.le_refl _)
theorem itoa_n (n : Nat) (h : n < 1000000000) (w : World) (hT : TenAt w) : Calls Tryz.prog 108 #[.int .i64 (n : Int)] w fun e w' => e = .returned (.string (bS (Lib.decDigits n))) ∧ Below w.heap.size w w' := by
  refine (Tryz.strconv_Itoa (n : Int) (by omega) (by omega) w hT).mono ?_
  rintro e w' ⟨rfl, k, os, rfl⟩
  exact ⟨by rw [Lib.itoa_nonneg]; rfl, Lib.below_grow _ _ (Nat.le_refl _) _ _⟩
theorem numsB_snoc (l : List Nat) (n : Nat) : numsB (l ++ [n]) = numsB l ++ (Lib.decDigits n ++ [32]) := by
  unfold numsB; rw [List.map_append, List.flatten_append]; simp
theorem take_snocN (l : List Nat) (k : Nat) (h : k < l.length) : l.take (k + 1) = l.take k ++ [l[k]] := List.take_succ_eq_append_getElem h
theorem dec_len (n : Nat) (h : n < 1000000) : (Lib.decDigits n).length ≤ 6 := by rw [Lib.decDigits_length]; exact nDigits_le n 5 (by omega)
set_option maxHeartbeats 4000000 in
theorem lnum_c (l : List Nat) (v : Value) (w : World) (hl : l.length ≤ 1000) (hb : ∀ n ∈ l, n < 1000000) (hs : IntSl w v (l.map fun n : Nat => (n : Int))) (hT : TenAt w) :
    Calls Tryz.prog 107 #[v] w fun e w' => e = .returned (.string (bS (numsB (l.length :: l)))) ∧ Below w.heap.size w w' := by
  obtain ⟨a, cap, rfl, hsl⟩ := hs
  rw [List.length_map] at hsl ⊢
  replace hsl := Lib.hid hsl
  replace hb := Lib.hid hb
  have hT' := Lib.hid hT
  have hz0 : (bS (Lib.decDigits l.length)).size ≤ 6 := by rw [bS_size]; exact dec_len _ (by omega)
  go_enter Tryz.func107, Tryz.ntmps107
  go_wp2_with fail
  refine (itoa_n l.length (by omega) _ hT).mono ?_; rintro e w1 ⟨rfl, hb1⟩
  have hB1 := Lib.hid hb1
  clear hb1 hT
  go_wp2
  go_loopw [3, 12] (fun s i wr => ∃ n : Nat, n ≤ l.length ∧ i = .int .i64 n ∧ s = .string (bS (numsB (l.length :: l.take n))) ∧ Below w.heap.size w wr) (fun _ i _ => l.length - (intOf i).toNat)
  case atStart =>
    refine ⟨0, Nat.zero_le _, rfl, congrArg Value.string ?_, hB1.out⟩
    show bS _ ++ bS [32] = _
    rw [bS_app]; unfold numsB; simp
  case round =>
    clear hz0
    obtain ⟨n, hn, rfl, rfl, hB⟩ := hrel
    replace hB := Lib.hid hB
    by_cases hlt : n < l.length
    · obtain ⟨b, o, rfl, hI⟩ := hsl.out (by omega)
      have hI6 := hI.below hB.out
      have hjm : n < (l.map fun n : Nat => (n : Int)).length := by rw [List.length_map]; exact hlt
      have l1 := hI6.c n hjm
      have l2 := hI6.lt
      rw [List.getElem_map] at l1
      have hx := hb.out _ (List.getElem_mem hlt)
      have hsn : Hid (numsB (l.length :: l.take (n + 1)) = numsB (l.length :: l.take n) ++ (Lib.decDigits l[n] ++ [32])) := Lib.hid (by rw [take_snocN l n hlt, ← List.cons_append, numsB_snoc])
      have hq : (numsB (l.length :: l.take n)).length ≤ 7007 := by
        have h1 := numsB_len (l.length :: l.take n) (fun m hm => by
          rcases List.mem_cons.1 hm with h | h
          · omega
          · exact hb.out m (List.mem_of_mem_take h))
        simp only [List.length_cons, List.length_take] at h1
        omega
      generalize numsB (l.length :: l.take n) = S at *
      generalize l[n] = x at *
      have z1 : (bS S).size ≤ 7007 := by rw [bS_size]; exact hq
      have z2 : (bS (Lib.decDigits x)).size ≤ 6 := by rw [bS_size]; exact dec_len _ hx
      have z3 : ¬ (9223372036854775807 < (bS (Lib.decDigits x)).size + 1) := by omega
      have z4 : ¬ (9223372036854775807 < (bS S).size + ((bS (Lib.decDigits x)).size + 1)) := by omega
      clear hI hI6 hsl hb hq
      go_wp2_with fail
      refine (itoa_n x (by omega) _ (hT'.out.below hB.out)).mono ?_; rintro e w2 ⟨rfl, hb2⟩
      have hB2 := Lib.hid (below_seq hB.out hb2)
      clear l1 l2 hb2
      go_wp2
      go_roundw
      case rel =>
        refine ⟨n + 1, by omega, by go_num, congrArg Value.string ?_, hB2.out⟩
        show bS S ++ (bS _ ++ bS [32]) = _
        rw [hsn.out, bS_app, bS_app]
      case measure => simp [intOf]; omega
    · obtain rfl : n = l.length := by omega
      rw [List.take_length]
      go_wp2
      go_ret
      exact ⟨rfl, hB.out⟩
/-- A spot's number. -/
def codeL (l : List UInt8) : Nat := l.foldl (fun n c => n * 256 + c.toNat) 0
theorem codeL_snoc (l : List UInt8) (c : UInt8) : codeL (l ++ [c]) = codeL l * 256 + c.toNat := by unfold codeL; rw [List.foldl_append]; rfl
theorem codeL_take (l : List UInt8) (k : Nat) (h : k < l.length) : codeL (l.take (k + 1)) = codeL (l.take k) * 256 + l[k].toNat := by
  rw [List.take_succ_eq_append_getElem h, codeL_snoc]
theorem codeL_from : ∀ (l : List UInt8) (a : Nat), l.foldl (fun n c => n * 256 + c.toNat) a < (a + 1) * 256 ^ l.length
  | [], a => by simp
  | c :: l, a => by
    have h := codeL_from l (a * 256 + c.toNat)
    have hc := c.toNat_lt
    rw [List.foldl_cons, List.length_cons, Nat.pow_succ]
    refine Nat.lt_of_lt_of_le h ?_
    rw [Nat.mul_comm (256 ^ l.length) 256, ← Nat.mul_assoc]
    exact Nat.mul_le_mul_right _ (by omega)
theorem codeL_lt (l : List UInt8) : codeL l < 256 ^ l.length := by
  have := codeL_from l 0
  rw [Nat.zero_add, Nat.one_mul] at this
  exact this
set_option maxHeartbeats 1000000 in
theorem lcode_c (s : ByteArray) (w : World) (hs : s.size ≤ 3) : Calls Tryz.prog 105 #[.string s] w fun e w' => e = .returned (.int .i64 ((codeL s.data.toList : Nat) : Int)) ∧ Below w.heap.size w w' := by
  obtain ⟨cap, w1, hconv, hb, hc⟩ := conv_bytes s w
  have hlen : s.data.toList.length = s.size := rfl
  have HL := Lib.hid hlen; clear hlen
  have HC := Lib.hid hc; clear hc
  have HS := Lib.hid hs
  go_enter Tryz.func105, Tryz.ntmps105
  go_wp2
  go_loop [3, 9] (fun n i => ∃ k : Nat, k ≤ s.size ∧ i = .int .i64 k ∧ n = .int .i64 ((codeL (s.data.toList.take k) : Nat) : Int)) (fun _ i => s.size - (intOf i).toNat)
  case atStart => exact ⟨0, Nat.zero_le _, rfl, by rw [List.take_zero]; rfl⟩
  case round =>
    obtain ⟨k, hk, rfl, rfl⟩ := hrel
    by_cases hlt : k < s.size
    · have h0 : codeL (s.data.toList.take k) < 65536 := by
        have h1 := codeL_lt (s.data.toList.take k)
        have h2 : (s.data.toList.take k).length ≤ 2 := by rw [List.length_take]; omega
        exact Nat.lt_of_lt_of_le h1 (Nat.pow_le_pow_right (by decide) h2)
      obtain ⟨c, hcell, h3, ht⟩ : ∃ c : UInt8, w1.cell? ⟨w.heap.size, k, none⟩ = some (.int .u8 c.toNat) ∧ c.toNat < 256 ∧ Hid (codeL (s.data.toList.take (k + 1)) = codeL (s.data.toList.take k) * 256 + c.toNat) := by
        have hl : k < s.data.toList.length := by have := HL.out; omega
        refine ⟨s.data.toList[k], ?_, UInt8.toNat_lt _, Lib.hid (codeL_take s.data.toList k hl)⟩
        have := HC.out k hlt
        rw [List.getD_eq_getElem?_getD, List.getElem?_eq_getElem hl] at this
        exact this
      generalize codeL (s.data.toList.take k) = C at *
      go_wp2
      go_round
      case rel => exact ⟨k + 1, by omega, by go_num, by rw [ht.out]; congr 1⟩
      case measure => simp [intOf]; omega
    · go_wp2
      go_ret
      exact ⟨ret_int (by rw [List.take_of_length_le (by have := HL.out; omega)]), hb⟩
def codeS (s : Sp) : Nat := codeL (sBytes s).data.toList
/-- The sign's byte of a spot that is not far. -/
def sgS (s : Sp) : Int := if pOf (-s.y) < s.y then 2 else 1
theorem sgS_bd (s : Sp) : 1 ≤ sgS s ∧ sgS s ≤ 2 := by unfold sgS; split <;> omega
theorem sBytes_near {s : Sp} (h : s.far = false) : sBytes s = strOfNums [sgS s, s.x / 256, s.x % 256] := by
  unfold sBytes sgS
  rw [if_neg (by simp [h])]
  split <;> rfl
theorem codeS_far {s : Sp} (h : s.far = true) : codeS s = 0 := by unfold codeS sBytes; rw [if_pos h]; rfl
theorem ofNat_toNat (n : Int) (h0 : 0 ≤ n) (h1 : n < 256) : ((UInt8.ofNat n.toNat).toNat : Int) = n := by
  rw [UInt8.toNat_ofNat_of_lt' (by show _ < 256; omega)]; omega
theorem codeS_near {s : Sp} (h : s.far = false) (x0 : 0 ≤ s.x) (x1 : s.x < 4051) : ((codeS s : Nat) : Int) = sgS s * 65536 + s.x := by
  obtain ⟨g1, g2⟩ := sgS_bd s
  have a1 := ofNat_toNat (sgS s) (by omega) (by omega)
  have a2 := ofNat_toNat (s.x / 256) (by omega) (by omega)
  have a3 := ofNat_toNat (s.x % 256) (by omega) (by omega)
  unfold codeS
  rw [sBytes_near h, strOfNums_data]
  simp only [codeL, List.map_cons, List.map_nil, List.foldl_cons, List.foldl_nil]
  omega
theorem codeS_lt {s : Sp} (h : Ok s) : codeS s < 200000 := by
  have x0 := h.x0; have x1 := h.x1
  cases hf : s.far
  · have := codeS_near hf x0 x1
    have := (sgS_bd s).2
    omega
  · rw [codeS_far hf]; decide
theorem lcodeS_c (s : Sp) (w : World) : Calls Tryz.prog 105 #[.string (sBytes s)] w fun e w' => e = .returned (.int .i64 ((codeS s : Nat) : Int)) ∧ Below w.heap.size w w' := lcode_c (sBytes s) w (sBytes_size s)
/-- What a record of a deal says. -/
def recD (gl : List Nat) (M : List Int) (RS : Sp) (s : Nat) : List UInt8 := recB gl (M.map fun m => codeS (qS m)) (codeS RS) s
set_option maxHeartbeats 8000000 in
theorem lrec_c (gl : List Nat) (M : List Int) (RS : Sp) (s : Nat) (a0 a1 : Option Addr) (c0 c1 : Nat) (w : World) (hT : TenAt w) (hg : gl.length ≤ 1000) (hgb : ∀ g ∈ gl, g < 1000000) (hm : M.length ≤ 12) (oR : Ok RS) (hs : s < 1013)
    (h0 : IntSl w (.slice a0 gl.length c0) (gl.map fun n : Nat => (n : Int))) (h1 : 0 < M.length → ∃ b o, a1 = some ⟨b, o, none⟩ ∧ SpotsAt w b o (M.map qS)) :
    Calls Tryz.prog 57 #[dlV (.slice a0 gl.length c0) (.slice a1 M.length c1) RS (s : Int)] w fun e w' => e = .returned (.string (bS (recD gl M RS s))) ∧ Below w.heap.size w w' := by
  obtain ⟨n, hn⟩ : ∃ n, gl.length = n := ⟨_, rfl⟩
  have hgz : (numsB (gl.length :: gl)).length ≤ 7007 := by
    have := numsB_len (gl.length :: gl) (fun m hm => by
      rcases List.mem_cons.1 hm with h | h
      · omega
      · exact hgb m h)
    simp only [List.length_cons] at this
    omega
  have kG := Lib.hid (fun (w1 : World) (hb : Below w.heap.size w w1) => lnum_c gl (.slice a0 gl.length c0) w1 hg hgb (h0.below hb) (hT.below hb))
  rw [hn] at kG h0 ⊢
  replace hn := Lib.hid hn
  replace h1 := Lib.hid h1
  have hT' := Lib.hid hT
  have b1 : (w.alloc (.cells #[.slice a0 n c0, .slice a1 M.length c1, .int .i64 RS.x, .int .i64 RS.y, .bool RS.far, .int .i64 s] 46)).cell? ⟨w.heap.size, 1, none⟩ = some (.slice a1 M.length c1) := by go_simp
  clear h0 hT hgb
  go_enter Tryz.func57, Tryz.ntmps57
  go_wp2_with fail
  clear b1
  obtain ⟨w0, hw0⟩ : ∃ x, x = w.alloc (.cells #[.slice a0 n c0, .slice a1 M.length c1, .int .i64 RS.x, .int .i64 RS.y, .bool RS.far, .int .i64 s] 46) := ⟨_, rfl⟩
  rw [← hw0]
  have hB0 : Below w.heap.size w w0 := by rw [hw0]; exact below_alloc _ _
  have e0 : w0.cell? ⟨w.heap.size, 0, none⟩ = some (.slice a0 n c0) := by rw [hw0]; go_simp
  have e2 : w0.cell? ⟨w.heap.size, 2, none⟩ = some (.int .i64 RS.x) := by rw [hw0]; go_simp
  have e3 : w0.cell? ⟨w.heap.size, 3, none⟩ = some (.int .i64 RS.y) := by rw [hw0]; go_simp
  have e4 : w0.cell? ⟨w.heap.size, 4, none⟩ = some (.bool RS.far) := by rw [hw0]; go_simp
  have e5 : w0.cell? ⟨w.heap.size, 5, none⟩ = some (.int .i64 s) := by rw [hw0]; go_simp
  have el : w.heap.size < w0.heap.size := by rw [hw0]; simp
  clear hw0
  have hd := Lib.hid (fun (w' : World) (hb : Below w0.heap.size w0 w') => (⟨((bcell hb).1 _ 0 el).trans e0, ((bcell hb).1 _ 2 el).trans e2, ((bcell hb).1 _ 3 el).trans e3, ((bcell hb).1 _ 4 el).trans e4, ((bcell hb).1 _ 5 el).trans e5, Nat.lt_of_lt_of_le el hb.size⟩ : w'.cell? ⟨w.heap.size, 0, none⟩ = some (.slice a0 n c0) ∧ w'.cell? ⟨w.heap.size, 2, none⟩ = some (.int .i64 RS.x) ∧ w'.cell? ⟨w.heap.size, 3, none⟩ = some (.int .i64 RS.y) ∧ w'.cell? ⟨w.heap.size, 4, none⟩ = some (.bool RS.far) ∧ w'.cell? ⟨w.heap.size, 5, none⟩ = some (.int .i64 s) ∧ w.heap.size < w'.heap.size))
  replace hB0 := Lib.hid hB0
  clear e0 e2 e3 e4 e5 el
  obtain ⟨KL, hKL⟩ : ∃ KL : List Int, (M.map fun m => ((codeS (qS m) : Nat) : Int)) = KL := ⟨_, rfl⟩
  have hKl : KL.length = M.length := by rw [← hKL, List.length_map]
  replace hKL := Lib.hid hKL
  replace hKl := Lib.hid hKl
  go_loopw [3, 9] (fun v i wr => ∃ k : Nat, k ≤ M.length ∧ i = .int .i64 k ∧ wr.ownsRow w0.heap.size 3 1 v k ((KL.take k).map (Value.int .i64)) ∧ Below w0.heap.size w0 wr) (fun _ i _ => M.length - (intOf i).toNat)
  case atStart => exact ⟨0, Nat.zero_le _, rfl, World.ownsRow_nil _ _ _ _, Below.refl _ _⟩
  case round =>
    obtain ⟨k, hk, rfl, hown, hB⟩ := hrel
    replace hown := Lib.hid hown
    replace hB := Lib.hid hB
    by_cases hlt : k < M.length
    · obtain ⟨b, o, rfl, hS⟩ := h1.out (by omega)
      have hS' := (hS.below hB0.out).below hB.out
      have hjm : k < (M.map qS).length := by rw [List.length_map]; exact hlt
      have l1 := hS'.cx k hjm
      have l2 := hS'.cy k hjm
      have l3 := hS'.cf k hjm
      have l4 := hS'.lt
      rw [List.getElem_map] at l1 l2 l3
      have hz := hB.out.size
      have hkl : k < KL.length := by rw [hKl.out]; exact hlt
      have hst := Lib.hid (take_snocI KL k hkl)
      have hx : Hid (KL[k] = ((codeS (qS M[k]) : Nat) : Int)) := Lib.hid (by subst hKL; rw [List.getElem_map])
      have hlen : (KL.take k).length = k := by rw [List.length_take]; omega
      have oA := qS_ok M[k]
      clear hS hS' h1 kG hd
      generalize M[k] = m at *
      generalize qS m = A at *
      go_wp2_with fail
      refine (bytesOf_c A _ oA).mono ?_; rintro e w1 ⟨rfl, hb1⟩
      go_wp2_with fail
      refine (lcodeS_c A _).mono ?_; rintro e w2 ⟨rfl, hb2⟩
      have hown2 := Lib.hid (own_below (own_below (hown.out.alloc _) hb1) hb2)
      have hB2 := Lib.hid (below_seq (below_seq (balloc hB.out _) hb1) hb2)
      have hz2 := hB2.out.size
      clear l1 l2 l3 l4 hb1 hb2
      generalize ((codeS A : Nat) : Int) = c at *
      go_wp2_with (first | (at_builtin; refine wpl_append_int rfl _ _ _ rfl (by kernel_rfl) w0.heap.size _ (KL.take k) k rfl (hown2.out.alloc _) hlen (by omega) (by simp only [World.size_alloc]; omega) w2.heap.size c rfl (by go_simp) ?_; intro v1 w7 hown' hgrow hbel hloc; replace hown' := Lib.hid hown'; replace hbel := Lib.hid (hbel w0 (balloc hB2.out _)); clear hgrow hloc) | fail)
      go_wp2
      go_roundw
      case rel => exact ⟨k + 1, by omega, by go_num, by rw [hst.out, hx.out]; exact hown'.out, hbel.out⟩
      case measure => simp [intOf]; omega
    · obtain rfl : k = M.length := by omega
      have htk : KL.take M.length = KL := List.take_of_length_le (by have := hKl.out; omega)
      rw [htk] at hown
      obtain ⟨ac, cc, rfl⟩ := own_slB hown.out
      have hI2 := own_ints hown.out hKl.out.symm
      have hKs : KL = ((M.map fun m => codeS (qS m)).map fun n : Nat => (n : Int)) := by rw [← hKL.out, List.map_map]; rfl
      rw [hKs] at hI2
      have hKb : ∀ n ∈ (M.map fun m => codeS (qS m)), n < 1000000 := fun n hn => by
        rw [List.mem_map] at hn
        obtain ⟨m, -, rfl⟩ := hn
        have := codeS_lt (qS_ok m); omega
      have hKz : (numsB (M.length :: (M.map fun m => codeS (qS m)))).length ≤ 91 := by
        have := numsB_len (M.length :: (M.map fun m => codeS (qS m))) (fun m hm => by
          rcases List.mem_cons.1 hm with h | h
          · omega
          · exact hKb m h)
        simp only [List.length_cons, List.length_map] at this
        omega
      have kK := Lib.hid (fun (w1 : World) (hb : Below wr.heap.size wr w1) => lnum_c (M.map fun m => codeS (qS m)) (.slice ac M.length cc) w1 (by rw [List.length_map]; omega) hKb (hI2.below hb) (((hT'.out.below hB0.out).below hB.out).below hb))
      rw [List.length_map] at kK
      obtain ⟨S1, hS1⟩ : ∃ S1, bS (numsB (n :: gl)) = S1 := ⟨_, rfl⟩
      obtain ⟨S2, hS2⟩ : ∃ S2, bS (numsB (M.length :: (M.map fun m => codeS (qS m)))) = S2 := ⟨_, rfl⟩
      have zS1 : S1.size ≤ 7007 := by rw [← hS1, bS_size]; rw [hn.out] at hgz; exact hgz
      have zS2 : S2.size ≤ 91 := by rw [← hS2, bS_size]; exact hKz
      have kN : Hid (∀ w', Below wr.heap.size wr w' → ∀ v S, (v = .slice a0 n c0 ∧ S = S1) ∨ (v = .slice ac M.length cc ∧ S = S2) → Calls Tryz.prog 107 #[v] w' fun e w'' => e = .returned (.string S) ∧ Below w'.heap.size w' w'') := Lib.hid fun w' hb v S h => by
        rcases h with ⟨rfl, rfl⟩ | ⟨rfl, rfl⟩
        · rw [← hS1]; exact kG.out w' (below_seq (below_seq hB0.out hB.out) hb)
        · rw [← hS2]; exact kK.out w' hb
      have hTr := Lib.hid ((hT'.out.below hB0.out).below hB.out)
      have hrl := codeS_lt oR
      have hRc : Hid (codeS RS = codeS RS) := Lib.hid rfl
      obtain ⟨rc, hrc⟩ : ∃ rc, codeS RS = rc := ⟨_, rfl⟩
      have kC := Lib.hid (fun (w1 : World) => lcodeS_c RS w1)
      rw [hrc] at kC hrl
      have hc9 : rc < 1000000000 := by omega
      have hs9 : s < 1000000000 := by omega
      have zD1 : (bS (Lib.decDigits rc)).size ≤ 6 := by rw [bS_size]; exact dec_len _ (by omega)
      have zD2 : (bS (Lib.decDigits s)).size ≤ 6 := by rw [bS_size]; exact dec_len _ (by omega)
      have n1 : ¬ (9223372036854775807 < S1.size + S2.size) := by omega
      have n2 : ¬ (9223372036854775807 < S1.size + S2.size + (bS (Lib.decDigits rc)).size) := by omega
      have n3 : ¬ (9223372036854775807 < S1.size + S2.size + (bS (Lib.decDigits rc)).size + 1) := by omega
      have n4 : ¬ (9223372036854775807 < S1.size + S2.size + (bS (Lib.decDigits rc)).size + 1 + (bS (Lib.decDigits s)).size) := by omega
      have n5 : ¬ (9223372036854775807 < S1.size + S2.size + (bS (Lib.decDigits rc)).size + 1 + (bS (Lib.decDigits s)).size + 1) := by omega
      clear hKz hKs hI2 hKb zS1 zS2 zD1 zD2 hgz htk hRc
      replace hS1 := Lib.hid hS1
      replace hS2 := Lib.hid hS2
      replace hrc := Lib.hid hrc
      obtain ⟨e0, e2, e3, e4, e5, el⟩ := hd.out _ hB.out
      go_wp2_with fail
      refine wp_region_grow Tryz.mixed (by kernel_rfl) ?_
      repeat (quiet_step (first | (go_at_call 107; exact grow_of (kN.out _ (Grew.h _) _ _ (by first | exact .inl ⟨rfl, rfl⟩ | exact .inr ⟨rfl, rfl⟩))) | (go_at_call 106; exact grow_of (bytesOf_c RS _ oR)) | (go_at_call 105; exact grow_of (kC.out _)) | (go_at_call 108; exact grow_of (itoa_n _ (by first | exact hc9 | exact hs9) _ (hTr.out.below (Grew.h _))))))
      refine wpQuiet_nil ?_
      intro _ hw'
      obtain ⟨y, rfl⟩ := hw'
      have hBy := below_seq (below_seq hB0.out hB.out) y.h
      go_wp2
      go_ret
      refine ⟨ret_string ?_, hBy⟩
      show S1 ++ S2 ++ bS _ ++ bS [32] ++ bS _ ++ bS [10] = _
      rw [← hS1.out, ← hS2.out, ← hrc.out]
      simp only [bS_app]
      unfold recD recB
      rw [hn.out, List.length_map]
end Go.Proofs.YtahgaccdeakmcaaGreatDoor
namespace Go.Proofs.YtahgaccdeakmcaaGreatDoor
open Go.RowKit
set_option maxRecDepth 100000
set_option linter.unusedVariables false
set_option linter.unusedSimpArgs false
attribute [local go_sem ↓] Go.wp_at_zero Go.wp_at_succ
set_option maxHeartbeats 1000000 in
theorem lspot_far (w : World) (hF : FarAt w) : Calls Tryz.prog 150 #[.int .i64 0] w fun e w' => e = .returned (.tuple #[spV sFar, .nilIface]) ∧ Below w.heap.size w w' := by
  go_enter Tryz.func150, Tryz.ntmps150
  go_wp2_with fail
  have hz := SpAt.fresh w 0 0 false 28
  have hb0 := below_alloc w (.cells #[.int .i64 0, .int .i64 0, .bool false] 28)
  refine (unpack_far _ (hF.below hb0)).mono ?_; rintro e w1 ⟨rfl, hb1⟩
  obtain ⟨c0, c1, c2, f0, f1, f2, cl⟩ := hz.below hb1
  have hB := below_seq hb0 hb1
  clear hb0 hb1 hz
  go_wp2
  have kk := set3_cell (w := w1) (x := .int .i64 sFar.x) (y := .int .i64 sFar.y) (z := .bool sFar.far) c0 c1 c2
  refine bodyPost_ret (v := .tuple #[spV sFar, .nilIface]) (by simp [results, Tryz.results150, go_sem, kk.1, kk.2.1, kk.2.2]) rfl ⟨rfl, set3_below hB (Nat.le_refl _)⟩
set_option maxHeartbeats 1000000 in
theorem lspot_near (s : Sp) (o : Ok s) (h : s.far = false) (w : World) (hF : FarAt w) : Calls Tryz.prog 150 #[.int .i64 ((codeS s : Nat) : Int)] w fun e w' => e = .returned (.tuple #[spV s, .nilIface]) ∧ Below w.heap.size w w' := by
  have x0 := o.x0; have x1 := o.x1
  have hc := codeS_near h x0 x1
  obtain ⟨g1, g2⟩ := sgS_bd s
  generalize ((codeS s : Nat) : Int) = n at *
  have hn : (n == 0) = false := by rw [beq_eq_false_iff_ne]; omega
  have n0 : 0 ≤ n := by omega
  have n1 : n < 200000 := by omega
  have es : strOfNums [n / 65536, n / 256 % 256, n % 256] = sBytes s := by
    rw [sBytes_near h, show n / 65536 = sgS s by omega, show n / 256 % 256 = s.x / 256 by omega, show n % 256 = s.x % 256 by omega]
  have hcv := conv3 ((w.alloc (.cells #[.int .i64 0, .int .i64 0, .bool false] 28)).alloc (.cells #[.int .u8 (n / 65536), .int .u8 (n / 256 % 256), .int .u8 (n % 256)] 5)) (w.heap.size + 1) (n / 65536) (n / 256 % 256) (n % 256) (by go_simp) (by go_simp) (by go_simp)
  rw [es] at hcv
  have hz2 : (sBytes s).size ≤ 140737488351232 := Nat.le_trans (sBytes_size s) (by decide)
  have hun : unV (unpackR (sBytes s).data.toList) = .tuple #[spV s, .nilIface] := by rw [unpack_sBytes o]; rfl
  replace hc := Lib.hid hc
  replace es := Lib.hid es
  replace h := Lib.hid h
  clear g1 g2
  go_enter Tryz.func150, Tryz.ntmps150
  go_wp2_with fail
  have hz := (SpAt.fresh w 0 0 false 28).alloc (.cells #[.int .u8 (n / 65536), .int .u8 (n / 256 % 256), .int .u8 (n % 256)] 5)
  have hb0 := balloc (below_alloc w (.cells #[.int .i64 0, .int .i64 0, .bool false] 28)) (.cells #[.int .u8 (n / 65536), .int .u8 (n / 256 % 256), .int .u8 (n % 256)] 5)
  refine (unpack_c (sBytes s) _ (hF.below hb0) hz2).mono ?_; rintro e w1 ⟨rfl, hb1⟩
  rw [hun]
  obtain ⟨c0, c1, c2, f0, f1, f2, cl⟩ := hz.below hb1
  have hB := below_seq hb0 hb1
  clear hb0 hb1 hz hcv hun
  go_wp2
  have kk := set3_cell (w := w1) (x := .int .i64 s.x) (y := .int .i64 s.y) (z := .bool s.far) c0 c1 c2
  refine bodyPost_ret (v := .tuple #[spV s, .nilIface]) (by simp [results, Tryz.results150, go_sem, kk.1, kk.2.1, kk.2.2]) rfl ⟨rfl, set3_below hB (Nat.le_refl _)⟩
theorem lspot_c (s : Sp) (o : Ok s) (w : World) (hF : FarAt w) : Calls Tryz.prog 150 #[.int .i64 ((codeS s : Nat) : Int)] w fun e w' => e = .returned (.tuple #[spV s, .nilIface]) ∧ Below w.heap.size w w' := by
  cases hf : s.far
  · exact lspot_near s o hf w hF
  · have e : s = sFar := Sp.ext' (o.far hf).1 (o.far hf).2 hf
    rw [codeS_far hf, e]
    exact lspot_far w hF
/-- The words that lie from a place on. -/
structure WdsAt (w : World) (b off : Nat) (ws : List Nat) : Prop where
  lt : b < w.heap.size
  c : ∀ i (h : i < ws.length), w.cell? ⟨b, off + i, none⟩ = some (.string (bS (Lib.decDigits ws[i])))
/-- A reader of words: its block, and the words that are left; all below B. -/
structure RdAt (w : World) (B rb : Nat) (ws : List Nat) : Prop where
  lt : rb < w.heap.size
  rB : rb < B
  f0 : w.frozen? ⟨rb, 0, none⟩ = false
  c0 : ∃ a, w.cell? ⟨rb, 0, none⟩ = some (.slice a ws.length ws.length) ∧ (0 < ws.length → ∃ b off, a = some ⟨b, off, none⟩ ∧ WdsAt w b off ws ∧ b ≠ rb ∧ b < B)
theorem RdAt.below {w w' : World} {B rb : Nat} {ws : List Nat} (h : RdAt w B rb ws) (hb : Below B w w') : RdAt w' B rb ws := by
  obtain ⟨lt, rB, f0, a, c0, hw⟩ := h
  refine ⟨Nat.lt_of_lt_of_le lt hb.size, rB, (hb.frozen (p := ⟨rb, 0, none⟩) rB).trans f0, a, (hb.cell (p := ⟨rb, 0, none⟩) rB).trans c0, fun h0 => ?_⟩
  obtain ⟨b, off, e, hs, hne, hB⟩ := hw h0
  exact ⟨b, off, e, ⟨Nat.lt_of_lt_of_le hs.lt hb.size, fun i hi => (hb.cell (p := ⟨b, off + i, none⟩) hB).trans (hs.c i hi)⟩, hne, hB⟩
theorem atoi_n (x : Nat) (hx : x < 1000000000) (w : World) : Calls Tryz.prog 174 #[.string (bS (Lib.decDigits x))] w fun e w' => e = .returned (.tuple #[.int .i64 (x : Int), .nilIface]) ∧ Below w.heap.size w w' := by
  refine (Tryz.strconv_Atoi_ok (bS (Lib.decDigits x)) (by rw [bS_size, Lib.decDigits_length]; have := nDigits_le x 8 (by omega); omega) (x : Int) (by rw [bS_list]; exact atoiAll_dec x (by omega)) w).mono ?_
  rintro e w' ⟨rfl, rfl | ⟨t, rfl⟩⟩
  · exact ⟨rfl, Below.refl _ _⟩
  · exact ⟨rfl, rfl, rfl, rfl, by rw [Lib.bytesWorld_size]; omega, fun k hk => Lib.bytesWorld_at_old w _ t k hk⟩
set_option maxHeartbeats 4000000 in
theorem lnumber_c (B rb x : Nat) (ws : List Nat) (w : World) (hR : RdAt w B rb (x :: ws)) (hx : x < 1000000000) (hl : ws.length ≤ 1000000) :
    Calls Tryz.prog 151 #[.pointer (some ⟨rb, 0, none⟩)] w fun e w' => e = .returned (.tuple #[.int .i64 (x : Int), .nilIface]) ∧ RdAt w' B rb ws ∧ But (fun k => k = rb) w w' := by
  obtain ⟨lt, rB, f0, a, c0, hw⟩ := hR
  obtain ⟨b, off, rfl, hs, hne, hB⟩ := hw (by simp)
  have l1 := hs.c 0 (by simp)
  have l2 := hs.lt
  have l3 : ∀ i (h : i < ws.length), w.cell? ⟨b, off + 1 + i, none⟩ = some (.string (bS (Lib.decDigits ws[i]))) := fun i h => by
    have := hs.c (i + 1) (by simpa using h)
    rw [List.getElem_cons_succ] at this
    rw [Nat.add_assoc, Nat.add_comm 1 i]; exact this
  rw [List.getElem_cons_zero, Nat.add_zero] at l1
  rw [List.length_cons] at c0
  obtain ⟨m, hm⟩ : ∃ m, ws.length = m := ⟨_, rfl⟩
  rw [hm] at c0
  replace hm := Lib.hid hm
  replace l3 := Lib.hid l3
  clear hs hw
  go_enter Tryz.func151, Tryz.ntmps151
  go_wp2_with fail
  refine (atoi_n x hx _).mono ?_; rintro e w1 ⟨rfl, hb1⟩
  have c1 := ((bcell hb1).1 _ 0 lt).trans c0
  have f1 := ((bcell hb1).2 _ 0 lt).trans f0
  have lt1 := Nat.lt_of_lt_of_le lt hb1.size
  replace hb1 := Lib.hid hb1
  clear c0 f0 l1
  have hbut : But (fun k => k = rb) w (w1.setCell ⟨rb, 0, none⟩ (.slice (some ⟨b, if m = 0 then off else off + 1, none⟩) m m)) := (But.of_below hb1.out).trans (But.setCell (S := fun k => k = rb) (p := ⟨rb, 0, none⟩) rfl _)
  have hfin : RdAt (w1.setCell ⟨rb, 0, none⟩ (.slice (some ⟨b, if m = 0 then off else off + 1, none⟩) m m)) B rb ws := by
    refine ⟨by simpa using lt1, rB, by simpa using f1, some ⟨b, if m = 0 then off else off + 1, none⟩, ?_, fun h0 => ⟨b, off + 1, ?_, ⟨?_, fun i hi => ?_⟩, hne, hB⟩⟩
    · rw [hm.out]; exact World.cell?_setCell_same _ _ _ c1
    · rw [if_neg (by have := hm.out; omega)]
    · have := hb1.out.size; simp; omega
    · rw [World.cell?_setCell_other (h := by simp [hne])]
      exact ((bcell hb1.out).1 _ _ l2).trans (l3.out i hi)
  replace hbut := Lib.hid hbut
  replace hfin := Lib.hid hfin
  clear l3
  cases m with
  | zero =>
    rw [if_pos rfl] at hbut hfin
    go_wp2
    go_ret2
    exact ⟨rfl, hfin.out, hbut.out⟩
  | succ m =>
    rw [if_neg (by omega)] at hbut hfin
    go_wp2
    go_ret2
    exact ⟨rfl, hfin.out, hbut.out⟩
theorem below_alloc' (w : World) {B : Nat} (o : Obj) (h : B ≤ w.heap.size) : Below B w (w.alloc o) := (Below.refl B w).alloc h o
theorem But.after {S : Nat → Prop} {a b c : World} (h : But S a b) (k : Below a.heap.size b c) : But S a c :=
  ⟨k.os.trans h.os, k.tape.trans h.tape, k.output.trans h.output, Nat.le_trans h.size k.size, fun i hi hs => (k.block i hi).trans (h.block i hi hs)⟩
theorem own_but {w w' : World} {B e size n : Nat} {v : Value} {xs : List Value} {S : Nat → Prop} (h : w.ownsRow B e size v n xs) (hb : But S w w') (hs : ∀ k, v.ownBlock = some k → ¬ S k) : w'.ownsRow B e size v n xs :=
  own_keep h fun k hk => hb.block k (h.lt k hk).2 (hs k hk)
theorem drop_consN (l ws : List Nat) (k : Nat) (h : k < l.length) : l.drop k ++ ws = l[k] :: (l.drop (k + 1) ++ ws) := by rw [List.drop_eq_getElem_cons h, List.cons_append]
set_option maxHeartbeats 4000000 in
theorem lsome_c (B rb : Nat) (l ws : List Nat) (w : World) (hR : RdAt w B rb (l.length :: (l ++ ws))) (hBw : B ≤ w.heap.size) (hl : l.length ≤ 1000) (hx : ∀ n ∈ l, n < 1000000000) (hw : ws.length ≤ 10000) :
    Calls Tryz.prog 149 #[.pointer (some ⟨rb, 0, none⟩)] w fun e w' => ∃ v, e = .returned (.tuple #[v, .nilIface]) ∧ w'.ownsRow w.heap.size 3 1 v l.length ((l.map fun n : Nat => (n : Int)).map (Value.int .i64)) ∧ RdAt w' B rb ws ∧ But (fun k => k = rb) w w' := by
  have hN := lnumber_c B rb l.length (l ++ ws) w hR (by omega) (by rw [List.length_append]; omega)
  obtain ⟨LI, hLI⟩ : ∃ LI : List Int, (l.map fun n : Nat => (n : Int)) = LI := ⟨_, rfl⟩
  have hLl : LI.length = l.length := by rw [← hLI, List.length_map]
  rw [hLI]
  have hrB := hR.rB
  replace hLI := Lib.hid hLI
  replace hLl := Lib.hid hLl
  replace hN := Lib.hid hN
  replace hx := Lib.hid hx
  clear hR
  go_enter Tryz.func149, Tryz.ntmps149
  go_wp2_with fail
  refine hN.out.mono ?_; rintro e w1 ⟨rfl, hR1, hb1⟩
  replace hR1 := Lib.hid hR1
  replace hb1 := Lib.hid hb1
  clear hN
  go_wp2
  go_loopw [6, 18] (fun v i wr => ∃ k : Nat, k ≤ l.length ∧ i = .int .i64 k ∧ wr.ownsRow w.heap.size 3 1 v k ((LI.take k).map (Value.int .i64)) ∧ RdAt wr B rb (l.drop k ++ ws) ∧ But (fun k => k = rb) w wr) (fun _ i _ => l.length - (intOf i).toNat)
  case atStart => exact ⟨0, Nat.zero_le _, rfl, World.ownsRow_nil _ _ _ _, hR1.out, hb1.out⟩
  case round =>
    clear hR1 hb1
    obtain ⟨k, hk, rfl, hown, hR, hb⟩ := hrel
    by_cases hlt : k < l.length
    · rw [drop_consN l ws k hlt] at hR
      have hN := lnumber_c B rb l[k] (l.drop (k + 1) ++ ws) wr hR (hx.out _ (List.getElem_mem hlt)) (by rw [List.length_append, List.length_drop]; omega)
      have hkl : k < LI.length := by rw [hLl.out]; exact hlt
      have hst := Lib.hid (take_snocI LI k hkl)
      have hcx : Hid (LI[k] = ((l[k] : Nat) : Int)) := Lib.hid (by subst hLI; rw [List.getElem_map])
      have hlen : (LI.take k).length = k := by rw [List.length_take]; omega
      have hz := hb.size
      replace hN := Lib.hid hN
      replace hown := Lib.hid hown
      replace hb := Lib.hid hb
      clear hR
      generalize l[k] = c at *
      go_wp2_with fail
      refine hN.out.mono ?_; rintro e w2 ⟨rfl, hR2, hb2⟩
      have hown2 := Lib.hid (own_but hown.out hb2 (fun j hj e => by have := (hown.out.lt j hj).1; omega))
      have hB2 := Lib.hid (hb.out.trans hb2)
      have hz2 := hB2.out.size
      replace hR2 := Lib.hid hR2
      clear hb2 hN
      go_wp2_with (first | (at_builtin; refine wpl_append_int rfl _ _ _ rfl (by kernel_rfl) w.heap.size _ (LI.take k) k rfl (hown2.out.alloc _) hlen (by omega) (by simp only [World.size_alloc]; omega) w2.heap.size c rfl (by go_simp) ?_; intro v1 w7 hown' hgrow hbel hloc; replace hown' := Lib.hid hown'; have hb7 := Lib.hid (hbel w2 (below_alloc' w2 _ (by omega))); clear hgrow hloc hbel) | fail)
      go_wp2
      go_roundw
      case rel => exact ⟨k + 1, by omega, by go_num, by rw [hst.out, hcx.out]; exact hown'.out, hR2.out.below (hb7.out.mono hBw), hB2.out.after hb7.out⟩
      case measure => simp [intOf]; omega
    · obtain rfl : k = l.length := by omega
      have e1 : LI.take l.length = LI := List.take_of_length_le (by have := hLl.out; omega)
      have e2 : l.drop l.length ++ ws = ws := by rw [List.drop_length, List.nil_append]
      rw [e1] at hown
      rw [e2] at hR
      clear e1 e2
      replace hown := Lib.hid hown
      replace hR := Lib.hid hR
      replace hb := Lib.hid hb
      obtain ⟨av, cv, rfl⟩ := own_slB hown.out
      go_wp2
      go_ret2
      exact ⟨_, rfl, hown.out, hR.out, hb.out⟩
end Go.Proofs.YtahgaccdeakmcaaGreatDoor
namespace Go.Proofs.YtahgaccdeakmcaaGreatDoor
open Go.RowKit
set_option maxRecDepth 100000
set_option linter.unusedVariables false
set_option linter.unusedSimpArgs false
/-- The sum of the first k that are not gone. -/
def totN (N : List Int) (G : List Bool) : Nat → Int
  | 0 => 0
  | k + 1 => totN N G k + (if G.getD k true = true then 0 else N.getD k 0)
set_option maxHeartbeats 8000000 in
theorem btotal_c (N : List Int) (G : List Bool) (B p : Nat) (w : World) (hF : FarAt w) (hBk : BkAt w B p N G) (hN : N.length ≤ 1000000) :
    Calls Tryz.prog 40 #[.pointer (some ⟨p, 0, none⟩)] w fun e w' => e = .returned (spV (qS (totN N G N.length))) ∧ Below w.heap.size w w' := by
  obtain ⟨vc, vg, hBk⟩ := hBk
  obtain ⟨ac, cc, rfl⟩ := own_slB hBk.rc
  obtain ⟨ag, cg, rfl⟩ := own_slB hBk.rg
  have hNs : 0 < N.length → ∃ b o, ac = some ⟨b, o, none⟩ ∧ SpotsAt w b o (N.map qS) := fun h => by
    obtain ⟨a, c, e, hs⟩ := hBk.sp
    simp only [Value.slice.injEq] at e
    obtain ⟨rfl, -, -⟩ := e
    exact hs (by rw [List.length_map]; exact h)
  have hGs : 0 < N.length → ∃ b o, ag = some ⟨b, o, none⟩ ∧ BolsAt w b o G := fun h => by
    obtain ⟨a, c, e, hs⟩ := hBk.bo
    simp only [Value.slice.injEq] at e
    obtain ⟨rfl, -, -⟩ := e
    exact hs (by rw [hBk.ln]; exact h)
  have hGl := hBk.ln
  have p0 := hBk.c0
  have p1 := hBk.c1
  have hp := hBk.lt
  have hcp := Lib.hid (fun (w' : World) (hb : Below w.heap.size w w') => (⟨((bcell hb).1 _ 0 hp).trans p0, ((bcell hb).1 _ 1 hp).trans p1, Nat.lt_of_lt_of_le hp hb.size⟩ : w'.cell? ⟨p, 0, none⟩ = some (.slice ac N.length cc) ∧ w'.cell? ⟨p, 1, none⟩ = some (.slice ag N.length cg) ∧ p < w'.heap.size))
  clear hBk
  replace hNs := Lib.hid hNs
  replace hGs := Lib.hid hGs
  have hF' := Lib.hid hF
  obtain ⟨q0, q1, q2, ql⟩ := hF
  go_enter Tryz.func40, Tryz.ntmps40
  go_wp2
  have t0 : SpAt ((w.alloc (.cells #[.int .i64 0, .int .i64 0, .bool false] 28)).alloc (.cells #[.int .i64 0, .int .i64 0, .bool true] 28)) w.heap.size ⟨0, 0, false⟩ := (SpAt.fresh _ _ _ _ _).alloc _
  have t1 : SpAt ((w.alloc (.cells #[.int .i64 0, .int .i64 0, .bool false] 28)).alloc (.cells #[.int .i64 0, .int .i64 0, .bool true] 28)) (w.heap.size + 1) ⟨0, 0, true⟩ := SpAt.fresh1 _ _ _ _ _ _
  have tb := balloc (below_alloc w (.cells #[.int .i64 0, .int .i64 0, .bool false] 28)) (.cells #[.int .i64 0, .int .i64 0, .bool true] 28)
  replace t0 := Lib.hid t0
  replace t1 := Lib.hid t1
  replace tb := Lib.hid tb
  clear q0 q1 q2 ql
  generalize (w.alloc (.cells #[.int .i64 0, .int .i64 0, .bool false] 28)).alloc (.cells #[.int .i64 0, .int .i64 0, .bool true] 28) = w0 at *
  clear p0 p1
  go_loopw [12] (fun i wr => ∃ n : Nat, n ≤ N.length ∧ i = .int .i64 n ∧ SpAt wr w.heap.size ⟨0, 0, false⟩ ∧ SpAt wr (w.heap.size + 1) (qS (totN N G n)) ∧ Below w.heap.size w wr) (fun i _ => N.length - (intOf i).toNat)
  case atStart => exact ⟨0, Nat.zero_le _, rfl, t0.out, (by show SpAt w0 _ (qS 0); rw [qS_zero]; exact t1.out), tb.out⟩
  case round =>
    clear t0 t1 tb
    obtain ⟨n, hn, rfl, hr, ho, hB⟩ := hrel
    have hol := ho.lt
    have hrl := hr.lt
    replace hr := Lib.hid hr
    replace ho := Lib.hid ho
    replace hB := Lib.hid hB
    by_cases hlt : n < N.length
    · obtain ⟨bc, oc, rfl, hsN⟩ := hNs.out (by omega)
      obtain ⟨bg, og, rfl, hsG⟩ := hGs.out (by omega)
      have hjm : n < (N.map qS).length := by rw [List.length_map]; exact hlt
      have hjG : n < G.length := by omega
      have l1 := (hsN.below hB.out).cx n hjm
      have l2 := (hsN.below hB.out).cy n hjm
      have l3 := (hsN.below hB.out).cf n hjm
      have l4 := (hsN.below hB.out).lt
      rw [List.getElem_map] at l1 l2 l3
      have m1 := (hsG.below hB.out).c n hjG
      have m2 := (hsG.below hB.out).lt
      obtain ⟨r0, r1, r2⟩ := hcp.out _ hB.out
      have hst : totN N G (n + 1) = totN N G n + (if G[n] = true then 0 else N[n]) := by
        show totN N G n + _ = _
        rw [List.getD_eq_getElem?_getD, List.getElem?_eq_getElem hjG, List.getD_eq_getElem?_getD, List.getElem?_eq_getElem hlt]; rfl
      have oA := qS_ok N[n]
      have oS := qS_ok (totN N G n)
      have hsum : Hid (sSum (qS (totN N G n)) (qS N[n]) = qS (totN N G n + N[n])) := Lib.hid (qS_add _ _)
      replace hst := Lib.hid hst
      clear hsN hsG hNs hGs
      generalize N[n] = a at *
      generalize G[n] = gn at *
      generalize qS a = A at *
      obtain ⟨o0', o1', o2', of0, of1, of2, ol⟩ := ho.out
      cases gn
      · obtain ⟨D, hD⟩ : ∃ D, qS (totN N G n + a) = D := ⟨_, rfl⟩
        rw [hD] at hsum
        replace hD := Lib.hid hD
        generalize qS (totN N G n) = S at *
        go_wp2_with fail
        refine (sum_e S A D _ (hF'.out.below (balloc hB.out _)) oS oA hsum).mono ?_; rintro e w2 ⟨rfl, hb2⟩
        have hr2 := (hr.out.alloc _).below hb2
        have ho2 := (ho.out.alloc _).below hb2
        have ho2' := Lib.hid ho2
        have hB2 := Lib.hid (below_seq (balloc hB.out _) hb2)
        clear l1 l2 l3 l4 m1 m2 r0 r1 r2 o0' o1' o2' of0 of1 of2 ol hb2
        obtain ⟨o0', o1', o2', of0, of1, of2, ol⟩ := ho2
        go_wp2
        go_roundw
        case rel => exact ⟨n + 1, by omega, by go_num, hr2.set3o (by omega) _ _ _, by rw [hst.out, if_neg (by simp), hD.out]; exact ho2'.out.set3 _, set3_below hB2.out (by omega)⟩
        case measure => simp [intOf]; omega
      · go_wp2
        go_roundw
        case rel => exact ⟨n + 1, by omega, by go_num, hr.out.alloc _, by rw [hst.out, if_pos rfl, Int.add_zero]; exact ho.out.alloc _, balloc hB.out _⟩
        case measure => simp [intOf]; omega
    · obtain rfl : n = N.length := by omega
      obtain ⟨k0, k1, k2, kf0, kf1, kf2, kl⟩ := hr.out
      obtain ⟨o0', o1', o2', of0, of1, of2, ol⟩ := ho.out
      generalize hDe : qS (totN N G N.length) = D at *
      replace hDe := Lib.hid hDe
      go_wp2
      have kk' := set3_cell (w := wr) (x := .int .i64 D.x) (y := .int .i64 D.y) (z := .bool D.far) k0 k1 k2
      refine bodyPost_ret (v := spV D) (by simp [results, Tryz.results40, go_sem, kk'.1, kk'.2.1, kk'.2.2]) rfl ⟨by rw [hDe.out], set3_below hB.out (Nat.le_refl _)⟩
/-- The places of the first k that are not gone. -/
def liveN (G : List Bool) : Nat → List Int
  | 0 => []
  | k + 1 => liveN G k ++ (if G.getD k true = true then [] else [(k : Int)])
theorem liveN_len (G : List Bool) : ∀ k, (liveN G k).length ≤ k
  | 0 => Nat.le_refl _
  | k + 1 => by have := liveN_len G k; unfold liveN; rw [List.length_append]; split <;> simp <;> omega
set_option maxHeartbeats 8000000 in
theorem blive_c (N : List Int) (G : List Bool) (B p : Nat) (w : World) (hBk : BkAt w B p N G) (hN : N.length ≤ 1000000) :
    Calls Tryz.prog 70 #[.pointer (some ⟨p, 0, none⟩)] w fun e w' => ∃ v', e = .returned v' ∧ w'.ownsRow w.heap.size 3 1 v' (liveN G N.length).length ((liveN G N.length).map (Value.int .i64)) ∧ Below w.heap.size w w' := by
  obtain ⟨vc, vg, hBk⟩ := hBk
  obtain ⟨ag, cg, rfl⟩ := own_slB hBk.rg
  have hGs : 0 < N.length → ∃ b o, ag = some ⟨b, o, none⟩ ∧ BolsAt w b o G := fun h => by
    obtain ⟨a, c, e, hs⟩ := hBk.bo
    simp only [Value.slice.injEq] at e
    obtain ⟨rfl, -, -⟩ := e
    exact hs (by rw [hBk.ln]; exact h)
  have hGl := hBk.ln
  have p1 := hBk.c1
  have hp := hBk.lt
  clear hBk
  replace hGs := Lib.hid hGs
  go_enter Tryz.func70, Tryz.ntmps70
  go_wp2
  clear p1
  go_loopw [3, 11] (fun v i wr => ∃ n : Nat, n ≤ N.length ∧ i = .int .i64 n ∧ wr.ownsRow w.heap.size 3 1 v (liveN G n).length ((liveN G n).map (Value.int .i64)) ∧ Below w.heap.size w wr) (fun _ i _ => N.length - (intOf i).toNat)
  case atStart => exact ⟨0, Nat.zero_le _, rfl, World.ownsRow_nil _ _ _ _, Below.refl _ _⟩
  case round =>
    obtain ⟨n, hn, rfl, hown, hB⟩ := hrel
    replace hown := Lib.hid hown
    replace hB := Lib.hid hB
    by_cases hlt : n < N.length
    · obtain ⟨bg, og, rfl, hsG⟩ := hGs.out (by omega)
      have hjG : n < G.length := by omega
      have m1 := (hsG.below hB.out).c n hjG
      have m2 := (hsG.below hB.out).lt
      have hz := hB.out.size
      have hll := liveN_len G n
      have hst : Hid (liveN G (n + 1) = liveN G n ++ (if G[n] = true then [] else [(n : Int)])) := by
        show _ = _
        show liveN G n ++ _ = _
        rw [List.getD_eq_getElem?_getD, List.getElem?_eq_getElem hjG]; rfl
      clear hsG hGs
      generalize G[n] = gn at *
      cases gn
      · rw [if_neg (by simp)] at hst
        go_wp2_with (first | (at_builtin; refine wpl_append_int rfl _ _ _ rfl (by kernel_rfl) w.heap.size _ (liveN G n) (liveN G n).length rfl (hown.out.alloc _) rfl (by omega) (by simp only [World.size_alloc]; omega) wr.heap.size (n : Int) rfl (by go_simp) ?_; intro v1 w7 hown' hgrow hbel hloc; replace hown' := Lib.hid hown'; replace hbel := Lib.hid (hbel w (balloc hB.out _)); clear hgrow hloc) | fail)
        go_wp2
        go_roundw
        case rel => exact ⟨n + 1, by omega, by go_num, by rw [hst.out, List.length_append]; exact hown'.out, hbel.out⟩
        case measure => simp [intOf]; omega
      · rw [if_pos rfl, List.append_nil] at hst
        go_wp2
        go_roundw
        case rel => exact ⟨n + 1, by omega, by go_num, by rw [hst.out]; exact hown.out, hB.out⟩
        case measure => simp [intOf]; omega
    · obtain rfl : n = N.length := by omega
      go_wp2
      go_ret
      exact ⟨_, rfl, hown.out, hB.out⟩
end Go.Proofs.YtahgaccdeakmcaaGreatDoor
namespace Go.Proofs.YtahgaccdeakmcaaGreatDoor
open Go.RowKit
set_option maxRecDepth 100000
set_option linter.unusedVariables false
set_option linter.unusedSimpArgs false
theorem mod_off (a b t : Int) (h : a - b = 4052 * t) : a % 4052 = b % 4052 := by omega
theorem close_nums (h k c r q1 q2 m b : Int) (e1 : k + c * b = 1013 * q1 + m) (e2 : r = 1013 * q2 + b) : 4 * h * m - (4 * h * k + 4 * (h * r) * c) = 4052 * (-(h * q1) - h * q2 * c) := by
  have e3 : m = k + c * b - 1013 * q1 := by omega
  subst e3
  subst e2
  grind
theorem close_ok (k c r x : Int) (hx : (x - hJ * r) % 1013 = 0) : Sp.beq (sq (4 * hJ * ((k + c * (r % 1013)) % 1013))) (sSum (sq (4 * hJ * k)) (sq (4 * x * c))) = true := by
  have h1 : sq (4 * x * c) = sq (4 * (hJ * r) * c) := by
    refine sq_eq_iff.mpr ?_
    obtain ⟨t, ht⟩ : ∃ t, x - hJ * r = 1013 * t := ⟨(x - hJ * r) / 1013, by omega⟩
    refine mod_off _ _ (t * c) ?_
    have : x = hJ * r + 1013 * t := by omega
    rw [this]
    grind
  rw [h1, sq_add]
  have h2 : sq (4 * hJ * ((k + c * (r % 1013)) % 1013)) = sq (4 * hJ * k + 4 * (hJ * r) * c) := by
    refine sq_eq_iff.mpr (mod_off _ _ _ (close_nums hJ k c r ((k + c * (r % 1013)) / 1013) (r / 1013) _ (r % 1013) ?_ ?_))
    · omega
    · omega
  rw [h2]
  exact Sp.beq_refl _
end Go.Proofs.YtahgaccdeakmcaaGreatDoor
namespace Go.Proofs.YtahgaccdeakmcaaGreatDoor
abbrev Q := Fin 1013
def qE : Nat := 1011
def qinv (a : Q) : Q := ⟨a.val ^ qE % 1013, Nat.mod_lt _ (by decide)⟩
def qchk : Nat → Bool
  | 0 => true
  | k+1 => (k == 0 || (k * (k ^ qE % 1013) % 1013 == 1)) && qchk k
theorem qchk_ok : qchk 1013 = true := by decide +kernel
theorem qchk_at : ∀ n, qchk n = true → ∀ k, k < n → k ≠ 0 → k * (k ^ qE % 1013) % 1013 = 1
  | 0, _, _, hk, _ => absurd hk (Nat.not_lt_zero _)
  | n+1, h, k, hk, h0 => by
    simp only [qchk, Bool.and_eq_true, Bool.or_eq_true, beq_iff_eq] at h
    rcases Nat.lt_succ_iff_lt_or_eq.mp hk with h1 | h1
    · exact qchk_at n h.2 k h1 h0
    · subst h1; rcases h.1 with h2 | h2
      · exact absurd h2 h0
      · exact h2
theorem qmul_inv {a : Q} (h : a ≠ 0) : a * qinv a = 1 := by
  apply Fin.ext
  have := qchk_at 1013 qchk_ok a.val a.isLt (fun e => h (Fin.ext e))
  simpa [Fin.mul_def, qinv] using this
theorem qzero_or {a b : Q} (h : a * b = 0) : a = 0 ∨ b = 0 := by
  by_cases ha : a = 0
  · exact .inl ha
  · right; have h1 := qmul_inv ha
    have : qinv a * (a * b) = qinv a * 0 := by rw [h]
    grobner
theorem qcancel {a b c : Q} (hc : c ≠ 0) (h : c * a = c * b) : a = b := by
  have h1 := qmul_inv hc
  have : qinv c * (c * a) = qinv c * (c * b) := by rw [h]
  grobner
def qi (z : Int) : Q := ⟨(z % 1013).toNat, by omega⟩
theorem qi_val (z : Int) : ((qi z).val : Int) = z % 1013 := by simp only [qi]; omega
theorem qi_eq {a b : Int} : qi a = qi b ↔ a % 1013 = b % 1013 := by
  constructor
  · intro h; have := congrArg (fun x : Q => (x.val : Int)) h; simpa only [qi_val] using this
  · intro h; simp only [qi, h]
theorem qi_ext {a : Q} {z : Int} (h : (a.val : Int) = z % 1013) : a = qi z := by
  apply Fin.ext; have := qi_val z; omega
theorem qi_mod (z : Int) : qi (z % 1013) = qi z := qi_eq.mpr (by omega)
theorem qi_add (a b : Int) : qi (a + b) = qi a + qi b := by
  symm; apply qi_ext; rw [Fin.val_add]; have ha := qi_val a; have hb := qi_val b; omega
theorem qi_mul (a b : Int) : qi (a * b) = qi a * qi b := by
  symm; apply qi_ext; rw [Fin.val_mul]; have ha := qi_val a; have hb := qi_val b
  rw [Int.mul_emod, ← ha, ← hb]; simp
theorem qi_zero : qi 0 = 0 := rfl
theorem qi_one : qi 1 = 1 := rfl
theorem qi_neg (a : Int) : qi (-a) = - qi a := by
  have : qi (-a + a) = qi (-a) + qi a := qi_add _ _
  rw [show -a + a = 0 by omega, qi_zero] at this; grobner
theorem qi_sub (a b : Int) : qi (a - b) = qi a - qi b := by
  have := qi_add a (-b); rw [qi_neg] at this; rw [show a - b = a + -b by omega, this]; grobner
theorem qi_pow (a : Int) : ∀ n : Nat, qi (a ^ n) = qi a ^ n
  | 0 => by simp [qi_one]
  | n+1 => by rw [Int.pow_succ, qi_mul, qi_pow a n]; grobner
theorem qval_pow (a : Q) : ∀ n : Nat, (a ^ n).val = a.val ^ n % 1013
  | 0 => rfl
  | n+1 => by
    have : a ^ (n+1) = a ^ n * a := by grobner
    rw [this, Fin.val_mul, qval_pow a n, Nat.pow_succ, Nat.mod_mul_mod]
theorem qpowv (a : Q) (n : Nat) (h : a.val ^ n % 1013 < 1013) : (⟨a.val ^ n % 1013, h⟩ : Q) = a ^ n := Fin.ext (qval_pow a n).symm
theorem qinv_pow (a : Q) : qinv a = a ^ qE := qpowv a qE _
theorem qi_inj {a b : Int} (ha : 0 ≤ a ∧ a < 1013) (hb : 0 ≤ b ∧ b < 1013) (h : qi a = qi b) : a = b := by have := qi_eq.mp h; omega
theorem qi_ne {a : Int} (h1 : 1 ≤ a) (h2 : a < 1013) : qi a ≠ 0 := fun h => by
  have := qi_inj (by omega) (by omega) (h.trans qi_zero.symm); omega

/-- The weight of a place x among some. -/
def wt (x : Q) : List Q → Q
  | [] => 1
  | y :: l => if y = x then wt x l else y * qinv (y - x) * wt x l
def qsum (f : Q → Q) : List Q → Q
  | [] => 0
  | y :: l => f y + qsum f l
/-- What values, times the weights, add up to. -/
def lag (xs : List Q) (f : Q → Q) : Q := qsum (fun x => wt x xs * f x) xs
/-- A polynomial's value: the coefficient of the power 0 first. -/
def ev : List Q → Q → Q
  | [], _ => 0
  | c :: l, t => c + t * ev l t
/-- The quotient by (t - r). -/
def quo (r : Q) : List Q → List Q
  | [] => []
  | _ :: l => match l with
    | [] => []
    | _ => ev l r :: quo r l
theorem qsum_congr {f g : Q → Q} : ∀ {l : List Q}, (∀ x ∈ l, f x = g x) → qsum f l = qsum g l
  | [], _ => rfl
  | y :: l, h => by
    simp only [qsum]; rw [h y (by simp), qsum_congr fun x hx => h x (by simp [hx])]
theorem qsum_add (f g : Q → Q) : ∀ l : List Q, qsum (fun x => f x + g x) l = qsum f l + qsum g l
  | [] => by simp only [qsum]; grobner
  | y :: l => by simp only [qsum]; rw [qsum_add f g l]; grobner
theorem qsum_mul (c : Q) (f : Q → Q) : ∀ l : List Q, qsum (fun x => c * f x) l = c * qsum f l
  | [] => by simp only [qsum]; grobner
  | y :: l => by simp only [qsum]; rw [qsum_mul c f l]; grobner
theorem lag_add (xs : List Q) (f g : Q → Q) : lag xs (fun x => f x + g x) = lag xs f + lag xs g := by
  unfold lag; rw [← qsum_add]; exact qsum_congr fun x _ => by grobner
theorem lag_mul (xs : List Q) (c : Q) (f : Q → Q) : lag xs (fun x => c * f x) = c * lag xs f := by
  unfold lag; rw [← qsum_mul]; exact qsum_congr fun x _ => by grobner
theorem lag_congr {xs : List Q} {f g : Q → Q} (h : ∀ x ∈ xs, f x = g x) : lag xs f = lag xs g :=
  qsum_congr fun x hx => by rw [h x hx]
/-- The first place out. -/
theorem lag_out {x1 : Q} {xs : List Q} (h1 : x1 ∉ xs) (f : Q → Q) : lag (x1 :: xs) (fun x => (x - x1) * f x) = - x1 * lag xs f := by
  unfold lag
  rw [← qsum_mul]
  simp only [qsum]
  rw [show wt x1 (x1 :: xs) * ((x1 - x1) * f x1) = 0 by grobner]
  have : qsum (fun x => wt x (x1 :: xs) * ((x - x1) * f x)) xs = qsum (fun x => -x1 * (wt x xs * f x)) xs := by
    apply qsum_congr
    intro x hx
    have hne : x1 ≠ x := fun e => h1 (e ▸ hx)
    have e : wt x (x1 :: xs) = x1 * qinv (x1 - x) * wt x xs := by simp only [wt]; rw [if_neg hne]
    have hd : x1 - x ≠ 0 := fun e => hne (by grobner)
    have k := qmul_inv hd
    rw [e]
    generalize qinv (x1 - x) = i at *
    clear e hd hne hx h1
    grobner
  rw [this]; grobner
theorem wt_swap (x a b : Q) (l : List Q) : wt x (a :: b :: l) = wt x (b :: a :: l) := by
  simp only [wt]; split <;> split <;> grobner
theorem lag_swap (a b : Q) (l : List Q) (f : Q → Q) : lag (a :: b :: l) f = lag (b :: a :: l) f := by
  unfold lag
  have : qsum (fun x => wt x (a :: b :: l) * f x) (a :: b :: l) = qsum (fun x => wt x (b :: a :: l) * f x) (a :: b :: l) := qsum_congr fun x _ => by rw [wt_swap]
  rw [this]; simp only [qsum]; grobner
theorem lag_one : ∀ (n : Nat) (xs : List Q), xs.length = n + 1 → xs.Nodup → lag xs (fun _ => 1) = 1
  | 0, xs, hl, _ => by
    match xs, hl with
    | [a], _ => simp only [lag, qsum, wt, if_true]; grobner
  | n+1, xs, hl, hd => by
    match xs, hl with
    | a :: b :: l, hl =>
      have hab : a ∉ b :: l := (List.nodup_cons.mp hd).1
      have hd2 : (b :: a :: l).Nodup := by
        have := (List.nodup_cons.mp hd).2
        have := (List.nodup_cons.mp this)
        simp only [List.mem_cons, not_or] at hab
        refine List.nodup_cons.mpr ⟨?_, List.nodup_cons.mpr ⟨hab.2, this.2⟩⟩
        simp only [List.mem_cons, not_or]; exact ⟨fun e => hab.1 e.symm, this.1⟩
      have i1 := lag_one n (b :: l) (by simpa using hl) (List.nodup_cons.mp hd).2
      have i2 := lag_one n (a :: l) (by simpa using hl) (List.nodup_cons.mp hd2).2
      have o1 := lag_out hab (fun _ => 1)
      have o2 := lag_out (List.nodup_cons.mp hd2).1 (fun _ => 1)
      rw [i1] at o1; rw [i2, lag_swap] at o2
      have d : lag (a :: b :: l) (fun _ => (b - a) * 1) = (b - a) * 1 := by
        have e : lag (a :: b :: l) (fun _ => (b - a) * 1) = lag (a :: b :: l) (fun x => (x - a) * 1 + (-1) * ((x - b) * 1)) := lag_congr fun x _ => by grobner
        rw [e, lag_add, lag_mul, o1, o2]; grobner
      rw [lag_mul] at d
      refine qcancel (fun e => ?_) d
      exact hab (by have : a = b := by grobner
                    rw [this]; simp)
theorem ev_quo (r t : Q) : ∀ p : List Q, ev p t = ev p r + (t - r) * ev (quo r p) t
  | [] => by simp only [ev, quo]; grobner
  | [c] => by simp only [ev, quo]; grobner
  | c :: d :: l => by
    have ih := ev_quo r t (d :: l)
    show c + t * ev (d :: l) t = c + r * ev (d :: l) r + (t - r) * (ev (d :: l) r + t * ev (quo r (d :: l)) t)
    generalize ev (d :: l) t = A at *
    generalize ev (d :: l) r = B at *
    generalize ev (quo r (d :: l)) t = C at *
    subst ih; grobner
theorem quo_len (r : Q) : ∀ p : List Q, (quo r p).length = p.length - 1
  | [] => rfl
  | [_] => rfl
  | _ :: d :: l => by
    have := quo_len r (d :: l)
    show (quo r (d :: l)).length + 1 = _
    rw [this]; simp
/-- Any so many of them tell it (Lagrange, Shamir): of a polynomial of no more coefficients than places the values tell its value at 0. -/
theorem lag_ev : ∀ (xs : List Q) (p : List Q), xs ≠ [] → xs.Nodup → p.length ≤ xs.length → lag xs (ev p) = ev p 0
  | [], _, h, _, _ => absurd rfl h
  | [a], p, _, _, hp => by
    match p, hp with
    | [], _ => simp only [lag, qsum, wt, ev, if_true]; grobner
    | [c], _ => simp only [lag, qsum, wt, ev, if_true]; grobner
  | a :: b :: l, p, _, hd, hp => by
    have ih := lag_ev (b :: l) (quo a p) (by simp) (List.nodup_cons.mp hd).2 (by rw [quo_len]; simp only [List.length_cons] at hp ⊢; omega)
    have e : lag (a :: b :: l) (ev p) = lag (a :: b :: l) (fun x => ev p a * 1 + (x - a) * ev (quo a p) x) := lag_congr fun x _ => by
      rw [ev_quo a x p]; grobner
    rw [e, lag_add, lag_mul, lag_one (l.length + 1) _ (by simp) hd, lag_out (List.nodup_cons.mp hd).1, ih, ev_quo a 0 p]; grobner
end Go.Proofs.YtahgaccdeakmcaaGreatDoor
namespace Go.Proofs.YtahgaccdeakmcaaGreatDoor
theorem q_solve {h : Int} (d : Int) (h1 : 1 ≤ h) (h2 : h < 1013) : ∃ n : Int, 0 ≤ n ∧ n < 1013 ∧ (h * n) % 1013 = d % 1013 := by
  have hi := qmul_inv (qi_ne h1 h2)
  refine ⟨((qinv (qi h) * qi d).val : Int), by omega, by have := (qinv (qi h) * qi d).isLt; omega, ?_⟩
  apply qi_eq.mp
  have e : qi ((qinv (qi h) * qi d).val : Int) = qinv (qi h) * qi d := by
    symm; apply qi_ext; have := (qinv (qi h) * qi d).isLt; omega
  rw [qi_mul, e]
  generalize qinv (qi h) = i at *
  have : qi h * (i * qi d) = (qi h * i) * qi d := by grobner
  rw [this, hi]; grobner
theorem q_inj {h n m : Int} (h1 : 1 ≤ h) (h2 : h < 1013) (e : (h * n) % 1013 = (h * m) % 1013) : n % 1013 = m % 1013 := by
  have := qi_eq.mpr e
  rw [qi_mul, qi_mul] at this
  exact qi_eq.mp (qcancel (qi_ne h1 h2) this)
end Go.Proofs.YtahgaccdeakmcaaGreatDoor
namespace Go.Proofs.YtahgaccdeakmcaaGreatDoor
open Go.RowKit
set_option maxRecDepth 100000
set_option linter.unusedVariables false
set_option linter.unusedSimpArgs false
theorem getD_set_ne (G : List Bool) (a b : Nat) (h : a ≠ b) : (G.set a true).getD b true = G.getD b true := by
  rw [List.getD_eq_getElem?_getD, List.getD_eq_getElem?_getD, List.getElem?_set_ne h]
theorem getD_set_eq (G : List Bool) (a : Nat) : (G.set a true).getD a true = true := by
  rw [List.getD_eq_getElem?_getD]
  by_cases h : a < G.length
  · rw [List.getElem?_set_self h]; rfl
  · rw [List.getElem?_eq_none (by rw [List.length_set]; omega)]; rfl
theorem totN_set (N : List Int) (G : List Bool) (g : Nat) (hg : G.getD g true = false) : ∀ k, totN N (G.set g true) k = totN N G k - (if g < k then N.getD g 0 else 0)
  | 0 => by simp [totN]
  | k + 1 => by
    unfold totN
    rw [totN_set N G g hg k]
    by_cases e : g = k
    · subst e
      rw [getD_set_eq, hg, if_neg (Nat.lt_irrefl _), if_pos (Nat.lt_succ_self _)]
      simp
    · rw [getD_set_ne G g k e]
      by_cases h : g < k
      · rw [if_pos h, if_pos (show g < k + 1 by omega)]; omega
      · rw [if_neg h, if_neg (show ¬ g < k + 1 by omega)]; omega
theorem liveN_set (G : List Bool) (g : Nat) (hg : G.getD g true = false) : ∀ k, (liveN (G.set g true) k).length + (if g < k then 1 else 0) = (liveN G k).length
  | 0 => by simp [liveN]
  | k + 1 => by
    have ih := liveN_set G g hg k
    unfold liveN
    rw [List.length_append, List.length_append]
    by_cases e : g = k
    · subst e
      rw [getD_set_eq, hg, if_pos (Nat.lt_succ_self _)]
      rw [if_neg (Nat.lt_irrefl _)] at ih
      simp; omega
    · rw [getD_set_ne G g k e]
      by_cases h : g < k
      · rw [if_pos h] at ih; rw [if_pos (show g < k + 1 by omega)]; omega
      · rw [if_neg h] at ih; rw [if_neg (show ¬ g < k + 1 by omega)]; omega
/-- Numbers as they go. -/
def nI (ps : List Nat) : List Int := ps.map fun (p : Nat) => (p : Int)
theorem nI_len (ps : List Nat) : (nI ps).length = ps.length := List.length_map _
theorem goneL_cons (G : List Bool) (p : Nat) (ps : List Nat) : goneL G (nI (p :: ps)) = goneL (G.set p true) (nI ps) := rfl
theorem outN_cons (N : List Int) (p : Nat) (ps : List Nat) : outN N (nI (p :: ps)) = -(N.getD p 0) + outN N (nI ps) := by
  unfold outN nI; simp only [List.map_cons, List.sum_cons, Int.toNat_natCast]; omega
theorem goneL_getD (G : List Bool) : ∀ (ps : List Nat) (q : Nat), (goneL G (nI ps)).getD q true = if q ∈ ps then true else G.getD q true := by
  intro ps
  induction ps generalizing G with
  | nil => intro q; simp [goneL, nI]
  | cons p ps ih =>
    intro q
    rw [goneL_cons, ih]
    by_cases h : q ∈ ps
    · rw [if_pos h, if_pos (List.mem_cons_of_mem _ h)]
    · rw [if_neg h]
      by_cases e : q = p
      · subst e; rw [getD_set_eq, if_pos List.mem_cons_self]
      · rw [getD_set_ne G p q (fun x => e x.symm), if_neg (by simp [e, h])]
theorem totN_gone (N : List Int) (k : Nat) : ∀ (ps : List Nat) (G : List Bool), ps.Nodup → (∀ p ∈ ps, p < k ∧ G.getD p true = false) → totN N (goneL G (nI ps)) k = totN N G k + outN N (nI ps)
  | [], G, _, _ => by simp [goneL, nI, outN]
  | p :: ps, G, hn, h => by
    obtain ⟨h1, h2⟩ := List.nodup_cons.mp hn
    obtain ⟨hp, hg⟩ := h p List.mem_cons_self
    rw [goneL_cons, outN_cons, totN_gone N k ps _ h2 (fun q hq => ⟨(h q (List.mem_cons_of_mem _ hq)).1, by rw [getD_set_ne G p q (fun e => h1 (e ▸ hq))]; exact (h q (List.mem_cons_of_mem _ hq)).2⟩), totN_set N G p hg k, if_pos hp]
    omega
theorem liveN_gone (k : Nat) : ∀ (ps : List Nat) (G : List Bool), ps.Nodup → (∀ p ∈ ps, p < k ∧ G.getD p true = false) → (liveN (goneL G (nI ps)) k).length + ps.length = (liveN G k).length
  | [], G, _, _ => by simp [goneL, nI]
  | p :: ps, G, hn, h => by
    obtain ⟨h1, h2⟩ := List.nodup_cons.mp hn
    obtain ⟨hp, hg⟩ := h p List.mem_cons_self
    have := liveN_gone k ps (G.set p true) h2 (fun q hq => ⟨(h q (List.mem_cons_of_mem _ hq)).1, by rw [getD_set_ne G p q (fun e => h1 (e ▸ hq))]; exact (h q (List.mem_cons_of_mem _ hq)).2⟩)
    have h3 := liveN_set G p hg k
    rw [if_pos hp] at h3
    rw [goneL_cons, List.length_cons]
    omega
theorem getD_app_lo {α : Type} (l m : List α) (d : α) (k : Nat) (h : k < l.length) : (l ++ m).getD k d = l.getD k d := by
  rw [List.getD_eq_getElem?_getD, List.getD_eq_getElem?_getD, List.getElem?_append_left h]
theorem getD_app_hi {α : Type} (l m : List α) (d : α) (k : Nat) : (l ++ m).getD (l.length + k) d = m.getD k d := by
  rw [List.getD_eq_getElem?_getD, List.getD_eq_getElem?_getD, List.getElem?_append_right (by omega), Nat.add_sub_cancel_left]
theorem totN_lo (N M : List Int) (G H : List Bool) (hG : G.length = N.length) : ∀ k, k ≤ N.length → totN (N ++ M) (G ++ H) k = totN N G k
  | 0, _ => rfl
  | k + 1, h => by
    unfold totN
    rw [totN_lo N M G H hG k (by omega), getD_app_lo N M 0 k (by omega), getD_app_lo G H true k (by omega)]
theorem totN_hi (N M : List Int) (G : List Bool) (hG : G.length = N.length) : ∀ j, j ≤ M.length → totN (N ++ M) (G ++ List.replicate M.length false) (N.length + j) = totN N G N.length + (M.take j).sum
  | 0, _ => by simp [totN_lo N M G _ hG]
  | j + 1, h => by
    show totN _ _ (N.length + j) + (if (G ++ List.replicate M.length false).getD (N.length + j) true = true then 0 else (N ++ M).getD (N.length + j) 0) = _
    rw [totN_hi N M G hG j (by omega), getD_app_hi N M 0 j]
    have e : (G ++ List.replicate M.length false).getD (N.length + j) true = false := by
      rw [← hG, getD_app_hi, List.getD_eq_getElem?_getD, List.getElem?_replicate_of_lt (by omega)]; rfl
    rw [e, if_neg (by simp), sumB_snoc M j (by omega), List.getD_eq_getElem?_getD, List.getElem?_eq_getElem (by omega)]
    simp only [Option.getD_some]
    omega
theorem liveN_lo (G H : List Bool) : ∀ k, k ≤ G.length → liveN (G ++ H) k = liveN G k
  | 0, _ => rfl
  | k + 1, h => by unfold liveN; rw [liveN_lo G H k (by omega), getD_app_lo G H true k (by omega)]
theorem liveN_hi (G : List Bool) (m : Nat) : ∀ j, j ≤ m → (liveN (G ++ List.replicate m false) (G.length + j)).length = (liveN G G.length).length + j
  | 0, _ => by simp [liveN_lo]
  | j + 1, h => by
    have e : (G ++ List.replicate m false).getD (G.length + j) true = false := by
      rw [getD_app_hi, List.getD_eq_getElem?_getD, List.getElem?_replicate_of_lt (by omega)]; rfl
    show (liveN _ (G.length + j) ++ (if (G ++ List.replicate m false).getD (G.length + j) true = true then [] else [((G.length + j : Nat) : Int)])).length = _
    rw [List.length_append, liveN_hi G m j (by omega), e, if_neg (by simp)]
    simp; omega
/-- Behind a deal: the sum of what is live, and how many are. -/
theorem deal_tot (N M : List Int) (G : List Bool) (ps : List Nat) (hG : G.length = N.length) (hn : ps.Nodup) (h : ∀ p ∈ ps, p < N.length ∧ G.getD p true = false) :
    totN (N ++ M) (goneL G (nI ps) ++ List.replicate M.length false) (N ++ M).length = totN N G N.length + (outN N (nI ps) + M.sum) ∧ (liveN (goneL G (nI ps) ++ List.replicate M.length false) (N ++ M).length).length + ps.length = (liveN G N.length).length + M.length := by
  have hl : (goneL G (nI ps)).length = N.length := by rw [goneL_len, hG]
  rw [List.length_append]
  constructor
  · rw [totN_hi N M _ hl M.length (Nat.le_refl _), totN_gone N N.length ps G hn h, List.take_length]; omega
  · have := liveN_hi (goneL G (nI ps)) M.length M.length (Nat.le_refl _)
    rw [hl] at this
    rw [this, ← liveN_gone N.length ps G hn h]; omega
theorem getD_fresh (n p : Nat) (h : p < n) : (List.replicate n false).getD p true = false := by
  rw [List.getD_eq_getElem?_getD, List.getElem?_replicate_of_lt h]; rfl
theorem liveN_fresh (n : Nat) : ∀ k, k ≤ n → (liveN (List.replicate n false) k).length = k
  | 0, _ => rfl
  | k + 1, h => by
    show (liveN _ k ++ (if (List.replicate n false).getD k true = true then [] else [(k : Int)])).length = _
    rw [List.length_append, liveN_fresh n k (by omega), getD_fresh n k (by omega), if_neg (by simp)]; rfl
/-- When what is sealed by what is left between closes. -/
theorem close_is (k c r v : Int) (c0 : 0 ≤ c) (c1 : c < 1013) : Sp.beq (sq (4 * hJ * ((k + c * (r % 1013)) % 1013))) (sSum (sq (4 * hJ * k)) (sq (4 * (v + hJ * r) * c))) = decide (v % 1013 = 0 ∨ c = 0) := by
  rw [sq_add]
  have h2 : sq (4 * hJ * ((k + c * (r % 1013)) % 1013)) = sq (4 * hJ * k + 4 * (hJ * r) * c) := by
    refine sq_eq_iff.mpr (mod_off _ _ _ (close_nums hJ k c r ((k + c * (r % 1013)) / 1013) (r / 1013) _ (r % 1013) ?_ ?_))
    · omega
    · omega
  rw [h2]
  have e : 4 * hJ * k + 4 * (v + hJ * r) * c - (4 * hJ * k + 4 * (hJ * r) * c) = 4 * (c * v) := by grind
  have key : (sq (4 * hJ * k + 4 * (hJ * r) * c) = sq (4 * hJ * k + 4 * (v + hJ * r) * c)) ↔ (v % 1013 = 0 ∨ c = 0) := by
    rw [sq_eq_iff]
    constructor
    · intro h
      by_cases hc : c = 0
      · exact .inr hc
      · have h3 : (c * v) % 1013 = 0 := by omega
        have h4 := q_inj (h := c) (n := v) (m := 0) (by omega) c1 (by rw [Int.mul_zero]; exact h3)
        exact .inl h4
    · intro h
      have h3 : (c * v) % 1013 = 0 := by
        rcases h with h | h
        · rw [Int.mul_emod, h]; simp
        · rw [h]; simp
      omega
  by_cases h : v % 1013 = 0 ∨ c = 0
  · rw [decide_eq_true h]; exact Sp.beq_iff.mpr (key.mpr h)
  · rw [decide_eq_false h]; exact Sp.beq_ne fun e => h (key.mp e)
end Go.Proofs.YtahgaccdeakmcaaGreatDoor
namespace Go.Proofs.YtahgaccdeakmcaaGreatDoor
open Go.RowKit
set_option maxRecDepth 100000
set_option linter.unusedVariables false
set_option linter.unusedSimpArgs false
theorem bnew_nil (w : World) (hF : FarAt w) : Calls Tryz.prog 35 #[.slice none 0 0] w fun e w' => ∃ p, e = .returned (.tuple #[.pointer (some ⟨p, 0, none⟩), .nilIface]) ∧ BkAt w' w.heap.size p [] [] ∧ Below w.heap.size w w' :=
  bnew_y [] none 0 w (by decide) hF (fun h => absurd h (by decide))
theorem bcheck_no (w : World) (hF : FarAt w) : Calls Tryz.prog 75 #[.slice none 0 0] w fun e w' => e = .returned .nilIface ∧ Below w.heap.size w w' :=
  bcheck_core [] 0 .nilIface _ 0 w hF (by decide) (fun h => absurd h (by decide)) (Lib.hid fun k h _ => absurd h (Nat.not_lt_zero _)) (by decide) (Lib.hid fun h => absurd h (by decide)) (Lib.hid fun h => absurd h (by decide)) (Lib.hid fun _ => rfl)
theorem bex_nil (N : List Int) (G : List Bool) (B p : Nat) (w : World) (hF : FarAt w) (hBk : BkAt w B p N G) (hNl : N.length ≤ 1000000) :
    Calls Tryz.prog 36 #[.pointer (some ⟨p, 0, none⟩), .slice none 0 0, .slice none 0 0] w fun e w' => e = .returned (.tuple #[spV ⟨0, 0, true⟩, .nilIface]) ∧ Below w.heap.size w w' :=
  bex_core N G B p [] [] none none 0 0 0 0 .nilIface _ w hF hBk hNl (by decide) (by decide) (by decide) (fun h => absurd h (by decide)) (fun h => absurd h (by decide)) (by decide) (by decide) (fun i h => absurd h (Nat.not_lt_zero _)) (fun h => absurd h (by decide)) (Lib.hid fun w1 hb => bcheck_no w1 (hF.below hb)) (Lib.hid fun h => absurd h (by decide)) (Lib.hid fun _ => .inr ⟨rfl, [], rfl, by rw [show outN N [] + ([] : List Int).sum = 0 from rfl, qS_zero]⟩)
/-- A deal of nothing is done. -/
theorem bdo_nil (N : List Int) (G : List Bool) (B p : Nat) (P : Sp) (w : World) (hF : FarAt w) (hBk : BkAt w B p N G) (hB0 : B ≤ w.heap.size) (hNl : N.length ≤ 1000) (hP : Hid (sq (4 * hJ * 1) = P)) :
    Calls Tryz.prog 38 #[.pointer (some ⟨p, 0, none⟩), dlV (.slice none 0 0) (.slice none 0 0) P 1] w fun e w' => e = .returned .nilIface ∧ BkAt w' B p N G ∧ Below B w w' := by
  obtain ⟨vc, vg, hv⟩ := hBk
  have hq : Sp.beq (sq (4 * hJ * 1)) (sSum P (sq (4 * 0 * bAsk P ⟨0, 0, true⟩))) = true := by
    have := close_ok 1 (bAsk P ⟨0, 0, true⟩) 0 0 (by decide)
    rw [hP.out] at this
    rw [show (1 + bAsk P ⟨0, 0, true⟩ * ((0 : Int) % 1013)) % 1013 = 1 by rw [show (0 : Int) % 1013 = 0 from rfl, Int.mul_zero]; rfl] at this
    exact this
  have oP : Ok P := by rw [← hP.out]; exact sq_ok _
  refine (bdo_y N [] G B p vc vg [] [] none none 0 0 P 1 ⟨0, 0, true⟩ 0 w hF hv hB0 hNl (Lib.hid sq_zero.symm) (by decide) (fun h => absurd h (by decide)) (fun h => absurd h (by decide)) (fun g h => absurd h List.not_mem_nil) (Lib.hid fun w1 hb => bex_nil N G B p w1 (hF.below hb) ⟨_, _, hv.below hb⟩ (by omega)) (by simpa using hNl) (by decide) (by decide) oP (Lib.hid hq)).mono ?_
  rintro e w' ⟨rfl, vc', vg', hv', -, hb⟩
  refine ⟨rfl, ⟨vc', vg', ?_⟩, hb.below hB0 fun k hk => (hv.blk k hk).1⟩
  have e1 : goneL G [] ++ List.replicate ([] : List Int).length false = G := by show G ++ [] = G; rw [List.append_nil]
  rw [e1, List.append_nil] at hv'
  exact hv'
theorem btotal_nil (B p : Nat) (w : World) (hF : FarAt w) (hBk : BkAt w B p [] []) : Calls Tryz.prog 40 #[.pointer (some ⟨p, 0, none⟩)] w fun e w' => e = .returned (spV ⟨0, 0, true⟩) ∧ Below w.heap.size w w' := by
  have := btotal_c [] [] B p w hF hBk (by decide)
  rw [show totN [] [] ([] : List Int).length = 0 from rfl, qS_zero] at this
  exact this
theorem blive_n (N : List Int) (G : List Bool) (B p n : Nat) (w : World) (hBk : BkAt w B p N G) (hN : N.length ≤ 1000) (hn : Hid ((liveN G N.length).length = n)) :
    Calls Tryz.prog 70 #[.pointer (some ⟨p, 0, none⟩)] w fun e w' => ∃ a cap, e = .returned (.slice a n cap) ∧ Below w.heap.size w w' := by
  refine (blive_c N G B p w hBk (by omega)).mono ?_
  rintro e w' ⟨v, rfl, ho, hb⟩
  rw [hn.out] at ho
  obtain ⟨a, cap, rfl⟩ := own_slB ho
  exact ⟨a, cap, rfl, hb⟩
/-- The numbers of coins made of values and rests. -/
def coinN (vs rs : List Int) : Nat → List Int
  | 0 => []
  | n + 1 => coinN vs rs n ++ [vs.getD n 0 + hJ * rs.getD n 0]
theorem coinN_len (vs rs : List Int) : ∀ n, (coinN vs rs n).length = n
  | 0 => rfl
  | n + 1 => by unfold coinN; rw [List.length_append, coinN_len vs rs n]; rfl
theorem coinN_get (vs rs : List Int) : ∀ n p, p < n → (coinN vs rs n).getD p 0 = vs.getD p 0 + hJ * rs.getD p 0
  | 0, p, h => absurd h (Nat.not_lt_zero _)
  | n + 1, p, h => by
    unfold coinN
    by_cases e : p < n
    · rw [getD_app_lo _ _ _ _ (by rw [coinN_len]; exact e), coinN_get vs rs n p e]
    · obtain rfl : p = n := by omega
      have := getD_app_hi (coinN vs rs p) [vs.getD p 0 + hJ * rs.getD p 0] 0 0
      rw [coinN_len, Nat.add_zero] at this
      rw [this]; rfl
def okV (vs rs : List Int) (n : Nat) : Prop := ∀ j, j < n → 0 ≤ vs.getD j 0 ∧ vs.getD j 0 < 1013 ∧ 0 ≤ rs.getD j 0 ∧ rs.getD j 0 < 1013
theorem okV.snoc {vs rs : List Int} {n : Nat} (h : okV vs rs n) (k : 0 ≤ vs.getD n 0 ∧ vs.getD n 0 < 1013 ∧ 0 ≤ rs.getD n 0 ∧ rs.getD n 0 < 1013) : okV vs rs (n + 1) := fun j hj => by
  by_cases e : j < n
  · exact h j e
  · obtain rfl : j = n := by omega
    exact k
/-- Sums of those picked. -/
def psum (l : List Int) (ps : List Nat) : Int := (ps.map fun p => l.getD p 0).sum
theorem psum_snoc (l : List Int) (ps : List Nat) (p : Nat) : psum l (ps ++ [p]) = psum l ps + l.getD p 0 := by unfold psum; rw [List.map_append, List.sum_append]; simp
theorem psum_bd (l : List Int) (n : Nat) (h : ∀ j, j < n → 0 ≤ l.getD j 0 ∧ l.getD j 0 < 1013) : ∀ ps : List Nat, (∀ p ∈ ps, p < n) → 0 ≤ psum l ps ∧ psum l ps ≤ 1012 * ps.length
  | [], _ => by simp [psum]
  | p :: ps, hp => by
    have h1 := psum_bd l n h ps fun q hq => hp q (List.mem_cons_of_mem _ hq)
    have h2 := h p (hp p List.mem_cons_self)
    have e : psum l (p :: ps) = l.getD p 0 + psum l ps := by unfold psum; simp
    rw [e, List.length_cons]; omega
def tsum (l : List Int) : Nat → Int
  | 0 => 0
  | n + 1 => tsum l n + l.getD n 0
theorem tsum_bd (l : List Int) : ∀ n, (∀ j, j < n → 0 ≤ l.getD j 0 ∧ l.getD j 0 < 1013) → 0 ≤ tsum l n ∧ tsum l n ≤ 1012 * n
  | 0, _ => by simp [tsum]
  | n + 1, h => by
    have h1 := tsum_bd l n fun j hj => h j (by omega)
    have h2 := h n (by omega)
    unfold tsum; omega
theorem coinN_sum (vs rs : List Int) : ∀ n, (coinN vs rs n).sum = tsum vs n + hJ * tsum rs n
  | 0 => by simp [coinN, tsum]
  | n + 1 => by unfold coinN tsum; rw [List.sum_append, coinN_sum vs rs n, Int.mul_add]; simp; omega
theorem outN_coin (vs rs : List Int) (n : Nat) : ∀ ps : List Nat, (∀ p ∈ ps, p < n) → outN (coinN vs rs n) (nI ps) = -(psum vs ps) - hJ * psum rs ps
  | [], _ => by simp [outN, nI, psum]
  | p :: ps, hp => by
    have e : ∀ l, psum l (p :: ps) = l.getD p 0 + psum l ps := fun l => by unfold psum; simp
    rw [outN_cons, outN_coin vs rs n ps fun q hq => hp q (List.mem_cons_of_mem _ hq), coinN_get vs rs n p (hp p List.mem_cons_self), e, e, Int.mul_add]; omega
/-- What goes and what comes, in one number. -/
theorem deal_num (vs rs come by' : List Int) (n m : Nat) (ps : List Nat) (hp : ∀ p ∈ ps, p < n) : outN (coinN vs rs n) (nI ps) + (coinN come by' m).sum = (-(psum vs ps) + tsum come m) + hJ * (-(psum rs ps) + tsum by' m) := by
  rw [outN_coin vs rs n ps hp, coinN_sum, Int.mul_add, Int.mul_neg]; omega
/-- The array at block b tells which of the first m places are among ps. -/
structure InAt (w : World) (b m : Nat) (ps : List Nat) : Prop where
  lt : b < w.heap.size
  c : ∀ j, j < m → w.cell? ⟨b, j, none⟩ = some (.bool (decide (j ∈ ps)))
  f : ∀ j, j < m → w.frozen? ⟨b, j, none⟩ = false
theorem InAt.keep {w w' : World} {b m : Nat} {ps : List Nat} (h : InAt w b m ps) (hs : w.heap.size ≤ w'.heap.size) (hb : w'.heap[b]? = w.heap[b]?) : InAt w' b m ps :=
  ⟨Nat.lt_of_lt_of_le h.lt hs, fun j hj => (World.cell?_of_block (a := ⟨b, j, none⟩) hb).trans (h.c j hj), fun j hj => (World.frozen?_of_block (a := ⟨b, j, none⟩) hb).trans (h.f j hj)⟩
theorem InAt.fresh (w : World) (m : Nat) (cs : Array Value) (t : TypeId) (hc : cs = Array.replicate m (.bool false)) : InAt (w.alloc (.cells cs t)) w.heap.size m [] := by
  subst hc
  refine ⟨by simp, fun j hj => ?_, fun j hj => ?_⟩
  · rw [cell_of_row _ w.heap.size _ (Array.replicate m (.bool false)) t (0, 0) (heap_alloc_new w _)]
    simp [hj]
  · simp
theorem InAt.put {w : World} {b m : Nat} {ps : List Nat} (h : InAt w b m ps) (p : Nat) (hp : p < m) : InAt (w.setCell ⟨b, p, none⟩ (.bool true)) b m (ps ++ [p]) := by
  refine ⟨by simpa [World.setCell] using h.lt, fun j hj => ?_, fun j hj => by rw [World.frozen?_setCell]; exact h.f j hj⟩
  by_cases e : j = p
  · subst e
    rw [World.cell?_setCell_same _ _ _ (h.c j hj)]; simp
  · rw [World.cell?_setCell_other (h := fun k => e (by cases k; rfl)), h.c j hj]
    simp [e]
theorem nodup_le : ∀ (n : Nat) (l : List Nat), l.Nodup → (∀ x ∈ l, x < n) → l.length ≤ n
  | 0, l, _, h => by
    cases l with
    | nil => exact Nat.le_refl _
    | cons x l => exact absurd (h x (List.mem_cons_self ..)) (Nat.not_lt_zero _)
  | n + 1, l, hd, h => by
    have ih := nodup_le n (l.erase n) (hd.erase n) (fun x hx => by
      have := (hd.mem_erase_iff).mp hx
      have := h x this.2
      omega)
    rw [List.length_erase] at ih
    split at ih <;> omega
/-- A deal that lies in a block. -/
structure DlAt (w : World) (b : Nat) (g n : Value) (r : Sp) (s : Int) : Prop where
  c0 : w.cell? ⟨b, 0, none⟩ = some g
  c1 : w.cell? ⟨b, 1, none⟩ = some n
  c2 : w.cell? ⟨b, 2, none⟩ = some (.int .i64 r.x)
  c3 : w.cell? ⟨b, 3, none⟩ = some (.int .i64 r.y)
  c4 : w.cell? ⟨b, 4, none⟩ = some (.bool r.far)
  c5 : w.cell? ⟨b, 5, none⟩ = some (.int .i64 s)
  f0 : w.frozen? ⟨b, 0, none⟩ = false
  f1 : w.frozen? ⟨b, 1, none⟩ = false
  f2 : w.frozen? ⟨b, 2, none⟩ = false
  f3 : w.frozen? ⟨b, 3, none⟩ = false
  f4 : w.frozen? ⟨b, 4, none⟩ = false
  f5 : w.frozen? ⟨b, 5, none⟩ = false
  lt : b < w.heap.size
theorem DlAt.keep {w w' : World} {b : Nat} {g n : Value} {r : Sp} {s : Int} (h : DlAt w b g n r s) (hs : w.heap.size ≤ w'.heap.size) (hb : w'.heap[b]? = w.heap[b]?) : DlAt w' b g n r s :=
  have c : ∀ o, w'.cell? ⟨b, o, none⟩ = w.cell? ⟨b, o, none⟩ := fun o => World.cell?_of_block (a := ⟨b, o, none⟩) hb
  have f : ∀ o, w'.frozen? ⟨b, o, none⟩ = w.frozen? ⟨b, o, none⟩ := fun o => World.frozen?_of_block (a := ⟨b, o, none⟩) hb
  ⟨(c 0).trans h.c0, (c 1).trans h.c1, (c 2).trans h.c2, (c 3).trans h.c3, (c 4).trans h.c4, (c 5).trans h.c5, (f 0).trans h.f0, (f 1).trans h.f1, (f 2).trans h.f2, (f 3).trans h.f3, (f 4).trans h.f4, (f 5).trans h.f5, Nat.lt_of_lt_of_le h.lt hs⟩
theorem DlAt.below {w w' : World} {b : Nat} {g n : Value} {r : Sp} {s : Int} (h : DlAt w b g n r s) (hb : Below w.heap.size w w') : DlAt w' b g n r s := h.keep hb.size (hb.block b h.lt)
theorem DlAt.fresh (w : World) (t : TypeId) : DlAt (w.alloc (.cells #[.slice none 0 0, .slice none 0 0, .int .i64 0, .int .i64 0, .bool false, .int .i64 0] t)) w.heap.size (.slice none 0 0) (.slice none 0 0) ⟨0, 0, false⟩ 0 := ⟨by simp, by simp, by simp, by simp, by simp, by simp, by simp, by simp, by simp, by simp, by simp, by simp, by simp⟩
theorem DlAt.setg {w : World} {b : Nat} {g n : Value} {r : Sp} {s : Int} (h : DlAt w b g n r s) (v : Value) : DlAt (w.setCell ⟨b, 0, none⟩ v) b v n r s := by
  have c : ∀ o, o ≠ 0 → (w.setCell ⟨b, 0, none⟩ v).cell? ⟨b, o, none⟩ = w.cell? ⟨b, o, none⟩ := fun o ho => World.cell?_setCell_other _ _ _ _ (fun e => ho (congrArg Addr.off e).symm)
  have f : ∀ o, (w.setCell ⟨b, 0, none⟩ v).frozen? ⟨b, o, none⟩ = w.frozen? ⟨b, o, none⟩ := fun o => World.frozen?_setCell ..
  exact ⟨World.cell?_setCell_same _ _ _ h.c0, (c 1 (by decide)).trans h.c1, (c 2 (by decide)).trans h.c2, (c 3 (by decide)).trans h.c3, (c 4 (by decide)).trans h.c4, (c 5 (by decide)).trans h.c5, (f 0).trans h.f0, (f 1).trans h.f1, (f 2).trans h.f2, (f 3).trans h.f3, (f 4).trans h.f4, (f 5).trans h.f5, by simpa [World.setCell] using h.lt⟩
theorem DlAt.setn {w : World} {b : Nat} {g n : Value} {r : Sp} {s : Int} (h : DlAt w b g n r s) (v : Value) : DlAt (w.setCell ⟨b, 1, none⟩ v) b g v r s := by
  have c : ∀ o, o ≠ 1 → (w.setCell ⟨b, 1, none⟩ v).cell? ⟨b, o, none⟩ = w.cell? ⟨b, o, none⟩ := fun o ho => World.cell?_setCell_other _ _ _ _ (fun e => ho (congrArg Addr.off e).symm)
  have f : ∀ o, (w.setCell ⟨b, 1, none⟩ v).frozen? ⟨b, o, none⟩ = w.frozen? ⟨b, o, none⟩ := fun o => World.frozen?_setCell ..
  exact ⟨(c 0 (by decide)).trans h.c0, World.cell?_setCell_same _ _ _ h.c1, (c 2 (by decide)).trans h.c2, (c 3 (by decide)).trans h.c3, (c 4 (by decide)).trans h.c4, (c 5 (by decide)).trans h.c5, (f 0).trans h.f0, (f 1).trans h.f1, (f 2).trans h.f2, (f 3).trans h.f3, (f 4).trans h.f4, (f 5).trans h.f5, by simpa [World.setCell] using h.lt⟩
theorem DlAt.set1 {w : World} {b : Nat} {g n : Value} {r : Sp} {s : Int} (h : DlAt w b g n r s) (R : Sp) (S : Int) : DlAt ((((w.setCell ⟨b, 2, none⟩ (.int .i64 R.x)).setCell ⟨b, 3, none⟩ (.int .i64 R.y)).setCell ⟨b, 4, none⟩ (.bool R.far)).setCell ⟨b, 5, none⟩ (.int .i64 S)) b g n R S := by
  have c : ∀ (w : World) (q o : Nat) (v : Value), o ≠ q → (w.setCell ⟨b, q, none⟩ v).cell? ⟨b, o, none⟩ = w.cell? ⟨b, o, none⟩ := fun w q o v ho => World.cell?_setCell_other _ _ _ _ (fun e => ho (congrArg Addr.off e).symm)
  have f : ∀ (w : World) (q o : Nat) (v : Value), (w.setCell ⟨b, q, none⟩ v).frozen? ⟨b, o, none⟩ = w.frozen? ⟨b, o, none⟩ := fun w q o v => World.frozen?_setCell ..
  refine ⟨?_, ?_, ?_, ?_, ?_, ?_, ?_, ?_, ?_, ?_, ?_, ?_, by simpa [World.setCell] using h.lt⟩
  · rw [c _ 5 0 _ (by decide), c _ 4 0 _ (by decide), c _ 3 0 _ (by decide), c _ 2 0 _ (by decide)]; exact h.c0
  · rw [c _ 5 1 _ (by decide), c _ 4 1 _ (by decide), c _ 3 1 _ (by decide), c _ 2 1 _ (by decide)]; exact h.c1
  · rw [c _ 5 2 _ (by decide), c _ 4 2 _ (by decide), c _ 3 2 _ (by decide)]; exact World.cell?_setCell_same _ _ _ h.c2
  · rw [c _ 5 3 _ (by decide), c _ 4 3 _ (by decide)]; exact World.cell?_setCell_same _ _ _ ((c _ 2 3 _ (by decide)).trans h.c3)
  · rw [c _ 5 4 _ (by decide)]; exact World.cell?_setCell_same _ _ _ ((c _ 3 4 _ (by decide)).trans ((c _ 2 4 _ (by decide)).trans h.c4))
  · exact World.cell?_setCell_same _ _ _ ((c _ 4 5 _ (by decide)).trans ((c _ 3 5 _ (by decide)).trans ((c _ 2 5 _ (by decide)).trans h.c5)))
  all_goals rw [f, f, f, f]
  · exact h.f0
  · exact h.f1
  · exact h.f2
  · exact h.f3
  · exact h.f4
  · exact h.f5
section
variable {ops : Array Oper} {o : Oper} {a : Act} {w : World} {K : Act → World → Prop} {Q : Exit → Act → World → Prop} {E : Prop}
theorem stepi_app (hgd : o.guard = none) (s x : Operand) (t : TypeId)
    (ho : o.op = .call { callee := .builtin .append, args := #[s, x], argTypes := #[t, t] }) (ht : Tryz.prog.underlying t = some (.slice 3)) (B : Nat) (v : Value) (l : List Int) (n : Nat) (hs : a.eval s = v)
    (hown : w.ownsRow B 3 1 v n (l.map (Value.int .i64))) (hn : l.length = n) (hl : n ≤ 1000000) (hB : B ≤ w.heap.size) (g : Nat) (c : Int) (hx : a.eval x = .slice (some ⟨g, 0, none⟩) 1 1)
    (h0 : w.cell? ⟨g, 0, none⟩ = some (.int .i64 c))
    (h : ∀ v' w', w'.ownsRow B 3 1 v' (n + 1) ((l ++ [c]).map (Value.int .i64)) → w.grownBy w' v.ownBlock → (v'.ownBlock = v.ownBlock ∨ v'.ownBlock = some w.heap.size) → K (a.put o.dst v') w') :
    if Region.wanted o (yielded ops a.tmps) = true then Oper.wp Tryz.prog o a w K Q else E := by
  obtain ⟨i0, hi, hz0, hz1, hz2⟩ := info_parts info_int
  refine step_append_lies w hgd s x _ ho B _ i0 _ 1 8 ht hi hz0 hz1 hz2 rfl (by decide) v n _ hs hown ⟨g, 0, none⟩ 1 1 [.int .i64 c] hx rfl ?_ ?_ (by decide) (by unfold maxLen; omega) (by omega) hB _ rfl ?_
  · intro j u hj
    have e : ∀ k, (⟨g, 0, none⟩ : Addr).add k = ⟨g, k, none⟩ := fun k => by rw [add_none, Nat.zero_add]
    rw [e]
    match j, hj with
    | 0, hj => cases hj; exact h0
  · intro u hu
    simp only [List.mem_cons, List.not_mem_nil, or_false] at hu
    subst hu; rfl
  · intro k cap w' h3 h4 h5 _
    rw [show l.map (Value.int .i64) ++ [.int .i64 c] = (l ++ [c]).map (Value.int .i64) by simp] at h3
    refine h _ w' h3 h4 ?_
    rcases h5 with h5 | h5
    · exact .inl (by rw [h5]; rfl)
    · exact .inr (by rw [h5]; rfl)
end
theorem nI_snoc (ps : List Nat) (q : Nat) : nI (ps ++ [q]) = nI ps ++ [(q : Int)] := by unfold nI; rw [List.map_append]; rfl
theorem IntsAt.but {S : Nat → Prop} {w w' : World} {b o : Nat} {l : List Int} (h : IntsAt w b o l) (hb : But S w w') (hs : ¬ S b) : IntsAt w' b o l :=
  ⟨Nat.lt_of_lt_of_le h.lt hb.size, fun i hi => (hb.cell h.lt hs _).trans (h.c i hi)⟩
theorem own_intsB {w : World} {B e n : Nat} {v : Value} {l : List Int} (h : w.ownsRow B e 1 v n (l.map (Value.int .i64))) (hn : n = l.length) : ∃ a cap, v = .slice a n cap ∧ n ≤ cap ∧ cap ≤ 9223372036854775807 ∧ (0 < l.length → ∃ b o, a = some ⟨b, o, none⟩ ∧ IntsAt w b o l ∧ B ≤ b) := by
  rcases h.2 with ⟨rfl, h0⟩ | ⟨g, cap, cur, rfl, hB, -, hc, hm, -⟩
  · exact ⟨none, 0, by rw [h0], by omega, by decide, fun h1 => by omega⟩
  · refine ⟨_, cap, rfl, hc, by unfold maxLen at hm; omega, fun h1 => ?_⟩
    obtain ⟨a, c, e2, h3⟩ := own_ints h hn
    obtain ⟨b, o, e3, h4⟩ := h3 h1
    simp only [Value.slice.injEq] at e2
    obtain ⟨e5, -, -⟩ := e2
    rw [e3] at e5
    have e6 := Option.some.inj e5
    simp only [Addr.mk.injEq] at e6
    obtain ⟨e7, -, -⟩ := e6
    exact ⟨b, o, e3 ▸ (by rw [e3]; exact e5), h4, e7 ▸ hB⟩
theorem own_spotsB {w : World} {B e n : Nat} {v : Value} {l : List Sp} (h : w.ownsRow B e 3 v n (spCells l)) (hn : n = l.length) : ∃ a cap, v = .slice a n cap ∧ (0 < l.length → ∃ b o, a = some ⟨b, o, none⟩ ∧ SpotsAt w b o l ∧ B ≤ b) := by
  rcases h.2 with ⟨rfl, h0⟩ | ⟨g, cap, cur, rfl, hB, -, hc, hm, -⟩
  · exact ⟨none, 0, by rw [h0], fun h1 => by omega⟩
  · refine ⟨_, cap, rfl, fun h1 => ?_⟩
    obtain ⟨a, c, e2, h3⟩ := own_spots h hn
    obtain ⟨b, o, e3, h4⟩ := h3 h1
    simp only [Value.slice.injEq] at e2
    obtain ⟨e5, -, -⟩ := e2
    rw [e3] at e5
    have e6 := Option.some.inj e5
    simp only [Addr.mk.injEq] at e6
    obtain ⟨e7, -, -⟩ := e6
    exact ⟨b, o, e3 ▸ (by rw [e3]; exact e5), h4, e7 ▸ hB⟩
theorem nI_get (ps : List Nat) (i : Nat) (h : i < (nI ps).length) : (nI ps)[i] = ((ps[i]'(by rw [nI_len] at h; exact h) : Nat) : Int) := by simp [nI]
theorem gErr_fresh (n : Nat) (ps : List Nat) (hnd : ps.Nodup) (hps : ∀ q ∈ ps, q < n) (i : Nat) (h : i < (nI ps).length) : gErrB (List.replicate n false) ((nI ps).take i) (nI ps)[i] = 0 := by
  have hi : i < ps.length := by rw [nI_len] at h; exact h
  have h1 := hps _ (List.getElem_mem hi)
  rw [nI_get ps i h]
  unfold gErrB
  rw [if_neg (by rw [List.length_replicate]; omega), if_neg (by rw [Int.toNat_natCast, getD_fresh n _ h1]; simp), if_neg ?_]
  intro hm
  obtain ⟨j, hj, e⟩ := List.getElem_of_mem hm
  rw [List.length_take] at hj
  rw [List.getElem_take, nI_get ps j (by omega)] at e
  have := List.pairwise_iff_getElem.mp hnd j i (by omega) hi (by omega)
  omega
theorem gErr_again (n m : Nat) (ps : List Nat) (hps : ∀ q ∈ ps, q < n) (h : 0 < (nI ps).length) : gErrB (goneL (List.replicate n false) (nI ps) ++ List.replicate m false) ((nI ps).take 0) (nI ps)[0] = 6 := by
  have hi : 0 < ps.length := by rw [nI_len] at h; exact h
  have h0 := List.getElem_mem hi
  have h1 := hps _ h0
  rw [nI_get ps 0 h]
  unfold gErrB
  have hl : (goneL (List.replicate n false) (nI ps)).length = n := by rw [goneL_len, List.length_replicate]
  rw [if_neg (by rw [List.length_append, hl]; omega), if_pos]
  rw [Int.toNat_natCast, getD_app_lo _ _ _ _ (by rw [hl]; exact h1), goneL_getD, if_pos h0]
section
variable (N M : List Int) (B p n m : Nat) (ps : List Nat) (a0 a1 : Option Addr) (c0 c1 : Nat) (X : Sp) (w : World) (hF : FarAt w)
include hF
theorem bex_all (hBk : BkAt w B p N (List.replicate n false)) (hn : N.length = n) (hN : n ≤ 900) (hm : M.length = m) (hM : m ≤ 12) (hnd : ps.Nodup) (hps : ∀ q ∈ ps, q < n) (hc0 : ps.length ≤ c0) (hc0' : c0 ≤ 9223372036854775807) (hX : Hid (qS (outN N (nI ps) + M.sum) = X)) (h0 : 0 < (nI ps).length → ∃ b o, a0 = some ⟨b, o, none⟩ ∧ IntsAt w b o (nI ps)) (h1 : 0 < (M.map qS).length → ∃ b o, a1 = some ⟨b, o, none⟩ ∧ SpotsAt w b o (M.map qS)) :
    Calls Tryz.prog 36 #[.pointer (some ⟨p, 0, none⟩), .slice a0 ps.length c0, .slice a1 m c1] w fun e w' => e = .returned (.tuple #[spV X, .nilIface]) ∧ Below w.heap.size w w' := by
  subst hm
  have hl : (M.map qS).length = M.length := List.length_map _
  have hb := bex_core N (List.replicate n false) B p (nI ps) (M.map qS) a0 a1 c0 c1 (nI ps).length 0 .nilIface (.tuple #[spV X, .nilIface]) w hF hBk (by omega) (by rw [nI_len]; omega) (by rw [nI_len]; omega) hc0' h0 h1 (by omega) (Nat.le_refl _) (fun i h _ => gErr_fresh n ps hnd hps i h) (fun h => absurd h (Nat.lt_irrefl _))
    (Lib.hid fun w1 hb1 => bcheck_core (M.map qS) (M.map qS).length .nilIface a1 c1 w1 (hF.below hb1) (by omega) (fun h => by obtain ⟨b, o, e, hs⟩ := h1 h; exact ⟨b, o, e, hs.below hb1⟩) (Lib.hid fun k h1 _ => ⟨_, List.getElem_map _⟩) (Nat.le_refl _) (Lib.hid fun h => absurd h (Nat.lt_irrefl _)) (Lib.hid fun h => absurd h (Nat.lt_irrefl _)) (Lib.hid fun _ => rfl))
    (Lib.hid fun h => absurd h (Nat.lt_irrefl _)) (Lib.hid fun _ => .inr ⟨rfl, M, rfl, by rw [hX.out]⟩)
  rw [hl, nI_len] at hb
  exact hb
theorem bdo_all (vc vg : Value) (P : Sp) (S x : Int) (hBk : BkV w B p vc vg N (List.replicate n false)) (hB0 : B ≤ w.heap.size) (hn : N.length = n) (hN : n ≤ 900) (hm : M.length = m) (hM : m ≤ 12) (hnd : ps.Nodup) (hps : ∀ q ∈ ps, q < n) (hc0 : ps.length ≤ c0) (hc0' : c0 ≤ 9223372036854775807) (hx : Hid (outN N (nI ps) + M.sum = x)) (hX : Hid (qS x = X)) (h0 : 0 < (nI ps).length → ∃ b o, a0 = some ⟨b, o, none⟩ ∧ IntsAt w b o (nI ps) ∧ ¬ inB p vc vg b) (h1 : 0 < (M.map qS).length → ∃ b o, a1 = some ⟨b, o, none⟩ ∧ SpotsAt w b o (M.map qS) ∧ ¬ inB p vc vg b)
    (S0 : 0 ≤ S) (S1 : S < 1013) (oP : Ok P) (hq : Hid (Sp.beq (sq (4 * hJ * S)) (sSum P (sq (4 * x * bAsk P X))) = true)) :
    Calls Tryz.prog 38 #[.pointer (some ⟨p, 0, none⟩), dlV (.slice a0 ps.length c0) (.slice a1 m c1) P S] w fun e w' => e = .returned .nilIface ∧ Did w w' B p vc vg (N ++ M) (goneL (List.replicate n false) (nI ps) ++ List.replicate m false) := by
  have hexx := fun (w1 : World) (hb : Below w.heap.size w w1) => bex_all N M B p n m ps a0 a1 c0 c1 X w1 (hF.below hb) ⟨_, _, hBk.below hb⟩ hn hN hm hM hnd hps hc0 hc0' (Lib.hid (by rw [hx.out]; exact hX.out)) (fun h => by obtain ⟨b, o, e, hs, -⟩ := h0 h; exact ⟨b, o, e, hs.below hb⟩) (fun h => by obtain ⟨b, o, e, hs, -⟩ := h1 h; exact ⟨b, o, e, hs.below hb⟩)
  subst hm
  have hb := bdo_y N M (List.replicate n false) B p vc vg (nI ps) [] a0 a1 c0 c1 P S X x w hF hBk hB0 (by omega) (Lib.hid hX.out.symm) (by rw [nI_len]; omega) h0 h1 (fun g hg => by
    obtain ⟨q, hq1, rfl⟩ := List.mem_map.mp hg
    have := hps q hq1
    omega) (Lib.hid (by rw [nI_len]; exact hexx)) (by omega) S0 S1 oP hq
  rw [nI_len] at hb
  exact hb
theorem bdo_wrong (P : Sp) (S x : Int) (hBk : BkAt w B p N (List.replicate n false)) (hn : N.length = n) (hN : n ≤ 900) (hm : M.length = m) (hM : m ≤ 12) (hnd : ps.Nodup) (hps : ∀ q ∈ ps, q < n) (hc0 : ps.length ≤ c0) (hc0' : c0 ≤ 9223372036854775807) (hx : Hid (outN N (nI ps) + M.sum = x)) (hX : Hid (qS x = X)) (h0 : 0 < (nI ps).length → ∃ b o, a0 = some ⟨b, o, none⟩ ∧ IntsAt w b o (nI ps)) (h1 : 0 < (M.map qS).length → ∃ b o, a1 = some ⟨b, o, none⟩ ∧ SpotsAt w b o (M.map qS))
    (S0 : 0 ≤ S) (S1 : S < 1013) (oP : Ok P) (hq : Hid (Sp.beq (sq (4 * hJ * S)) (sSum P (sq (4 * x * bAsk P X))) = false)) :
    Calls Tryz.prog 38 #[.pointer (some ⟨p, 0, none⟩), dlV (.slice a0 ps.length c0) (.slice a1 m c1) P S] w fun e w' => e = .returned (.iface 94 (.int .i64 8)) ∧ Below w.heap.size w w' :=
  bdo_n N (List.replicate n false) B p a0 a1 ps.length m c0 c1 P S X x 8 _ w hF hBk (by omega) (by omega) (Lib.hid hX.out.symm)
    (Lib.hid fun w1 hb => bex_all N M B p n m ps a0 a1 c0 c1 X w1 (hF.below hb) (hBk.below hb) hn hN hm hM hnd hps hc0 hc0' (Lib.hid (by rw [hx.out]; exact hX.out)) (fun h => by obtain ⟨b, o, e, hs⟩ := h0 h; exact ⟨b, o, e, hs.below hb⟩) (fun h => by obtain ⟨b, o, e, hs⟩ := h1 h; exact ⟨b, o, e, hs.below hb⟩))
    (Lib.hid (.inr ⟨rfl, .inr ⟨by omega, .inr ⟨⟨S0, S1⟩, .inr ⟨oP, rfl, hq.out⟩⟩⟩⟩))
/-- No coin goes twice. -/
theorem bdo_again (P : Sp) (S : Int) (hBk : BkAt w B p N (goneL (List.replicate n false) (nI ps) ++ List.replicate m false)) (hN : N.length ≤ 1000) (hM : m ≤ 12) (hps : ∀ q ∈ ps, q < n) (hp0 : 0 < ps.length) (hc0 : ps.length ≤ c0) (hc0' : c0 ≤ 9223372036854775807) (hC : M.length = m) (h0 : 0 < (nI ps).length → ∃ b o, a0 = some ⟨b, o, none⟩ ∧ IntsAt w b o (nI ps)) (h1 : 0 < (M.map qS).length → ∃ b o, a1 = some ⟨b, o, none⟩ ∧ SpotsAt w b o (M.map qS)) :
    Calls Tryz.prog 38 #[.pointer (some ⟨p, 0, none⟩), dlV (.slice a0 ps.length c0) (.slice a1 m c1) P S] w fun e w' => e = .returned (.iface 94 (.int .i64 6)) ∧ Below w.heap.size w w' := by
  subst hC
  have hl : (M.map qS).length = M.length := List.length_map _
  have hex := fun (w1 : World) (hb : Below w.heap.size w w1) => bex_core N _ B p (nI ps) (M.map qS) a0 a1 c0 c1 0 6 .nilIface (.tuple #[spV ⟨0, 0, false⟩, .iface 94 (.int .i64 6)]) w1 (hF.below hb) (hBk.below hb) (by omega) (by rw [nI_len]; omega) (by rw [nI_len]; omega) hc0' (fun h => by obtain ⟨b, o, e, hs⟩ := h0 h; exact ⟨b, o, e, hs.below hb⟩) (fun h => by obtain ⟨b, o, e, hs⟩ := h1 h; exact ⟨b, o, e, hs.below hb⟩) (by omega) (Nat.zero_le _) (fun i _ h => absurd h (Nat.not_lt_zero _)) (fun h => ⟨gErr_again n _ ps hps h, by decide⟩)
    (Lib.hid fun w2 hb2 => bcheck_core (M.map qS) (M.map qS).length .nilIface a1 c1 w2 (hF.below (below_seq hb hb2)) (by rw [List.length_map]; omega) (fun h => by obtain ⟨b, o, e, hs⟩ := h1 h; exact ⟨b, o, e, hs.below (below_seq hb hb2)⟩) (Lib.hid fun k h1 _ => ⟨_, List.getElem_map _⟩) (Nat.le_refl _) (Lib.hid fun h => absurd h (Nat.lt_irrefl _)) (Lib.hid fun h => absurd h (Nat.lt_irrefl _)) (Lib.hid fun _ => rfl))
    (Lib.hid fun _ => rfl) (Lib.hid fun h => absurd h (by rw [nI_len]; omega))
  simp only [nI_len, List.length_map] at hex
  exact bdo_n N _ B p a0 a1 ps.length M.length c0 c1 P S ⟨0, 0, true⟩ 0 6 _ w hF hBk (by omega) (by omega) (Lib.hid sq_zero.symm) (Lib.hid hex) (Lib.hid (.inl rfl))
end
end Go.Proofs.YtahgaccdeakmcaaGreatDoor
namespace Go.Proofs.YtahgaccdeakmcaaGreatDoor
open Go.RowKit
set_option maxRecDepth 100000
set_option linter.unusedVariables false
set_option linter.unusedSimpArgs false
attribute [local go_sem ↓] Go.wp_at_zero Go.wp_at_succ
def AscAt (w : World) : Prop := Lib.TabIs Tryz.prog w "strings.asciiSpace" .u8 Lib.asciiSpaceTab
theorem AscAt.below {w w' : World} (h : AscAt w) (hb : Below w.heap.size w w') : AscAt w' := Joins.tab_stays (g := 4) (by kernel_rfl) h hb (Nat.le_refl _)
theorem lfields_c (G K : List Nat) (r s : Nat) (ws : List Nat) (hws : recW G K r s = ws) (w : World) (hA : AscAt w) (hl : (recB G K r s).length ≤ 20000) :
    Calls Tryz.prog 148 #[.string (bS (recB G K r s))] w fun e w' => ∃ b, b = w.heap.size ∧ e = .returned (.slice (some ⟨b, 0, none⟩) ws.length ws.length) ∧ WdsAt w' b 0 ws ∧ Below w.heap.size w w' := by
  refine (Tryz.strings_Fields (bS (recB G K r s)) w (by rw [bS_size]; omega) (fun j b hj => recB_ascii G K r s b (by rw [bS_list] at hj; exact List.mem_of_getElem? hj)) hA).mono ?_
  rintro e w' ⟨rfl, rfl⟩
  refine ⟨w.heap.size, rfl, ?_, ⟨by simp, fun i hi => ?_⟩, below_alloc _ _⟩
  · rw [bS_list, recB_fields, hws, List.length_map]
  · rw [cell_of_row _ w.heap.size _ _ _ (0, 0) (heap_alloc_new w _), bS_list, recB_fields, hws]
    simp only [Nat.zero_add, List.getElem?_toArray, List.map_map]
    rw [List.getElem?_map, List.getElem?_eq_getElem hi]
    rfl
theorem DlAt.setR {w : World} {b : Nat} {g n : Value} {r : Sp} {s : Int} (h : DlAt w b g n r s) (R : Sp) : DlAt (((w.setCell ⟨b, 2, none⟩ (.int .i64 R.x)).setCell ⟨b, 3, none⟩ (.int .i64 R.y)).setCell ⟨b, 4, none⟩ (.bool R.far)) b g n R s := by
  have c : ∀ (w : World) (q o : Nat) (v : Value), o ≠ q → (w.setCell ⟨b, q, none⟩ v).cell? ⟨b, o, none⟩ = w.cell? ⟨b, o, none⟩ := fun w q o v ho => World.cell?_setCell_other _ _ _ _ (fun e => ho (congrArg Addr.off e).symm)
  refine ⟨?_, ?_, ?_, ?_, ?_, ?_, by simpa using h.f0, by simpa using h.f1, by simpa using h.f2, by simpa using h.f3, by simpa using h.f4, by simpa using h.f5, by simpa [World.setCell] using h.lt⟩
  · rw [c _ 4 0 _ (by decide), c _ 3 0 _ (by decide), c _ 2 0 _ (by decide)]; exact h.c0
  · rw [c _ 4 1 _ (by decide), c _ 3 1 _ (by decide), c _ 2 1 _ (by decide)]; exact h.c1
  · rw [c _ 4 2 _ (by decide), c _ 3 2 _ (by decide)]; exact World.cell?_setCell_same _ _ _ h.c2
  · rw [c _ 4 3 _ (by decide)]; exact World.cell?_setCell_same _ _ _ ((c _ 2 3 _ (by decide)).trans h.c3)
  · exact World.cell?_setCell_same _ _ _ (((c _ 3 4 _ (by decide)).trans (c _ 2 4 _ (by decide))).trans h.c4)
  · rw [c _ 4 5 _ (by decide), c _ 3 5 _ (by decide), c _ 2 5 _ (by decide)]; exact h.c5
theorem DlAt.setS {w : World} {b : Nat} {g n : Value} {r : Sp} {s : Int} (h : DlAt w b g n r s) (S : Int) : DlAt (w.setCell ⟨b, 5, none⟩ (.int .i64 S)) b g n r S := by
  have c : ∀ o, o ≠ 5 → (w.setCell ⟨b, 5, none⟩ (.int .i64 S)).cell? ⟨b, o, none⟩ = w.cell? ⟨b, o, none⟩ := fun o ho => World.cell?_setCell_other _ _ _ _ (fun e => ho (congrArg Addr.off e).symm)
  exact ⟨(c 0 (by decide)).trans h.c0, (c 1 (by decide)).trans h.c1, (c 2 (by decide)).trans h.c2, (c 3 (by decide)).trans h.c3, (c 4 (by decide)).trans h.c4, World.cell?_setCell_same _ _ _ h.c5, by simpa using h.f0, by simpa using h.f1, by simpa using h.f2, by simpa using h.f3, by simpa using h.f4, by simpa using h.f5, by simpa [World.setCell] using h.lt⟩
theorem DlAt.alloc1 {w : World} {b : Nat} {g n : Value} {r : Sp} {s : Int} (h : DlAt w b g n r s) (o : Obj) : DlAt (w.alloc o) b g n r s := h.below (below_alloc w o)
set_option maxHeartbeats 16000000 in
theorem ldeal_c (gl : List Nat) (M : List Int) (RS : Sp) (s : Nat) (w : World) (hF : FarAt w) (hA : AscAt w) (hg : gl.length ≤ 1000) (hgb : ∀ g ∈ gl, g < 1000000) (hm : M.length ≤ 12) (oR : Ok RS) (hs : s < 1013) :
    Calls Tryz.prog 109 #[.string (bS (recD gl M RS s))] w fun e w' => ∃ v0 v1, e = .returned (.tuple #[dlV v0 v1 RS (s : Int), .nilIface]) ∧ w'.ownsRow w.heap.size 3 1 v0 gl.length ((gl.map fun n : Nat => (n : Int)).map (Value.int .i64)) ∧ w'.ownsRow w.heap.size 28 3 v1 M.length (spCells (M.map qS)) ∧ Below w.heap.size w w' := by
  obtain ⟨K, hK⟩ : ∃ K, (M.map fun m => codeS (qS m)) = K := ⟨_, rfl⟩
  obtain ⟨rc, hrc⟩ : ∃ rc, codeS RS = rc := ⟨_, rfl⟩
  have hKl : K.length = M.length := by rw [← hK, List.length_map]
  have hKb : ∀ n ∈ K, n < 200000 := fun n hn => by
    rw [← hK, List.mem_map] at hn
    obtain ⟨m, -, rfl⟩ := hn
    exact codeS_lt (qS_ok m)
  have hrl := codeS_lt oR
  rw [hrc] at hrl
  have hbl := (recB_len gl K rc s hgb (fun n hn => by have := hKb n hn; omega) hg (by omega) (by omega) (by omega)).2
  obtain ⟨ws, hws⟩ : ∃ ws, recW gl K rc s = ws := ⟨_, rfl⟩
  have hFd := Lib.hid (fun (w1 : World) (hb : Below w.heap.size w w1) => lfields_c gl K rc s ws hws w1 (hA.below hb) hbl)
  have hw2 : Hid (ws = gl.length :: (gl ++ (K.length :: (K ++ [rc, s])))) := Lib.hid (by rw [← hws]; unfold recW; simp)
  unfold recD
  rw [hK, hrc]
  obtain ⟨RB, hRB⟩ : ∃ RB, bS (recB gl K rc s) = RB := ⟨_, rfl⟩
  rw [hRB] at hFd ⊢
  replace hFd := Lib.hid hFd
  replace hK := Lib.hid hK
  replace hrc := Lib.hid hrc
  replace hKl := Lib.hid hKl
  replace hKb := Lib.hid hKb
  replace hgb := Lib.hid hgb
  have hF' := Lib.hid hF
  clear hA hbl hws hRB hF
  go_enter Tryz.func109, Tryz.ntmps109
  go_wp2_with fail
  refine (hFd.out _ (below_alloc _ _)).mono ?_; rintro e w1 ⟨b, hb, rfl, hW, hb1⟩
  rw [World.size_alloc] at hb
  have hB1 := Lib.hid (below_seq (below_alloc w _) hb1)
  have hz1 := hb1.size
  rw [World.size_alloc] at hz1
  have hRES := Lib.hid ((DlAt.fresh w 46).below hb1)
  replace hW := Lib.hid hW
  replace hb := Lib.hid hb
  clear hb1 hFd
  go_wp2_with fail
  have z0 : b < w1.heap.size := hW.out.lt
  have hR0 : RdAt ((w1.alloc (.cells #[.slice (some ⟨b, 0, none⟩) ws.length ws.length] 184)).alloc (.cells #[.slice none 0 0, .slice none 0 0, .int .i64 0, .int .i64 0, .bool false, .int .i64 0] 46)) (w1.heap.size + 1) w1.heap.size ws := by
    refine ⟨by simp; omega, by omega, by go_simp, some ⟨b, 0, none⟩, by go_simp, fun _ => ⟨b, 0, rfl, ⟨by simp; omega, fun i hi => ?_⟩, by omega, by omega⟩⟩
    exact ((bcell (balloc (below_alloc w1 _) _)).1 _ _ z0).trans (hW.out.c i hi)
  have hD0 : DlAt ((w1.alloc (.cells #[.slice (some ⟨b, 0, none⟩) ws.length ws.length] 184)).alloc (.cells #[.slice none 0 0, .slice none 0 0, .int .i64 0, .int .i64 0, .bool false, .int .i64 0] 46)) (w1.heap.size + 1) (.slice none 0 0) (.slice none 0 0) ⟨0, 0, false⟩ 0 := by
    have := DlAt.fresh (w1.alloc (.cells #[.slice (some ⟨b, 0, none⟩) ws.length ws.length] 184)) 46
    rw [World.size_alloc] at this
    exact this
  have hB2 : Below w1.heap.size w1 ((w1.alloc (.cells #[.slice (some ⟨b, 0, none⟩) ws.length ws.length] 184)).alloc (.cells #[.slice none 0 0, .slice none 0 0, .int .i64 0, .int .i64 0, .bool false, .int .i64 0] 46)) := balloc (below_alloc w1 _) _
  have hz2 : ((w1.alloc (.cells #[.slice (some ⟨b, 0, none⟩) ws.length ws.length] 184)).alloc (.cells #[.slice none 0 0, .slice none 0 0, .int .i64 0, .int .i64 0, .bool false, .int .i64 0] 46)).heap.size = w1.heap.size + 2 := by simp
  generalize (w1.alloc (.cells #[.slice (some ⟨b, 0, none⟩) ws.length ws.length] 184)).alloc (.cells #[.slice none 0 0, .slice none 0 0, .int .i64 0, .int .i64 0, .bool false, .int .i64 0] 46) = w2 at *
  have hres2 := hRES.out.below hB2
  have hB2' := Lib.hid (below_seq hB1.out hB2)
  rw [hw2.out] at hR0
  obtain ⟨rb, hrb⟩ : ∃ rb, rb = w1.heap.size := ⟨_, rfl⟩
  obtain ⟨dp, hdp⟩ : ∃ dp, dp = w1.heap.size + 1 := ⟨_, rfl⟩
  rw [← hdp] at hR0 hD0 ⊢
  rw [← hrb] at hR0 ⊢
  have q1 : rb < dp := by omega
  have q2 : dp < w2.heap.size := by omega
  have q3 : w.heap.size < rb := by omega
  have hS1 := Lib.hid (lsome_c dp rb gl (K.length :: (K ++ [rc, s])) w2 hR0 (Nat.le_of_lt q2) hg (fun n hn => by have := hgb.out n hn; omega) (by simp; have := hKl.out; omega))
  replace hD0 := Lib.hid hD0
  replace hres2 := Lib.hid hres2
  clear hRES hB1 hB2 hW hR0 hz2 hz1 z0 hb hw2 hrb hdp
  refine hS1.out.mono ?_; rintro e w3 ⟨v0, rfl, hv0, hR3, hbt3⟩
  obtain ⟨a0, c0, rfl⟩ := own_slB hv0
  have hD3 := hD0.out.keep hbt3.size (hbt3.block dp q2 (fun e => by omega))
  have hres3 := hres2.out.keep hbt3.size (hbt3.block _ (by omega) (fun e => by omega))
  have hB3 : Below w.heap.size w w3 := hB2'.out.trans (hbt3.below (by have := hB2'.out.size; omega) (fun k hk => by omega))
  have q4 : dp < w3.heap.size := hD3.lt
  have hv0l := fun k hk => (hv0.lt k hk).1
  clear hS1 hbt3 hD0 hres2 hB2'
  -- the slice of those that go is stored
  have hD4 := hD3.setg (.slice a0 gl.length c0)
  have hR4 := hR3.below ((Below.refl dp w3).setCell (p := ⟨dp, 0, none⟩) (Nat.le_refl _) (.slice a0 gl.length c0))
  have hv4 := own_keep hv0 (w' := w3.setCell ⟨dp, 0, none⟩ (.slice a0 gl.length c0)) (fun k hk => heap_setCell_other w3 ⟨dp, 0, none⟩ k _ (by have := hv0l k hk; show k ≠ dp; omega))
  have hres4 := hres3.keep (w' := w3.setCell ⟨dp, 0, none⟩ (.slice a0 gl.length c0)) (by simp) (heap_setCell_other w3 ⟨dp, 0, none⟩ _ _ (by show w.heap.size ≠ dp; omega))
  have hB4 : Below w.heap.size w (w3.setCell ⟨dp, 0, none⟩ (.slice a0 gl.length c0)) := hB3.setCell (p := ⟨dp, 0, none⟩) (by show w.heap.size ≤ dp; omega) _
  have hz4 : (w3.setCell ⟨dp, 0, none⟩ (.slice a0 gl.length c0)).heap.size = w3.heap.size := by simp
  obtain ⟨d0, d1, d2, d3, d4, d5, g0, g1, g2, g3, g4, g5, dl⟩ := hD3
  replace hD4 := Lib.hid hD4
  replace hR4 := Lib.hid hR4
  replace hv4 := Lib.hid hv4
  replace hres4 := Lib.hid hres4
  replace hB4 := Lib.hid hB4
  clear hB3 hres3 hR3 hv0
  go_wp2_with fail
  clear d0 d1 d2 d3 d4 d5 g0 g1 g2 g3 g4 g5 dl
  generalize w3.setCell ⟨dp, 0, none⟩ (.slice a0 gl.length c0) = w4 at *
  have hS2 := Lib.hid (lsome_c dp rb K [rc, s] w4 hR4.out (by omega) (by have := hKl.out; omega) (fun n hn => by have := hKb.out n hn; omega) (by simp))
  refine hS2.out.mono ?_; rintro e w5 ⟨v1, rfl, hv1, hR5, hbt5⟩
  obtain ⟨a1, c1, rfl⟩ := own_slB hv1
  have q5 : dp < w4.heap.size := by omega
  have hD5 := hD4.out.keep hbt5.size (hbt5.block dp q5 (fun e => by omega))
  have hres5 := hres4.out.keep hbt5.size (hbt5.block _ (by omega) (fun e => by omega))
  have hB5 : Below w.heap.size w w5 := hB4.out.trans (hbt5.below (by omega) (fun k hk => by omega))
  have hv5 := own_but hv4.out hbt5 (fun j hj e => by have := hv0l j hj; omega)
  have hIK := own_ints hv1 (by rw [List.length_map])
  have hz5 := hbt5.size
  have hKi : Hid (∀ w', But (fun k => k = dp) w5 w' → IntSl w' (.slice a1 K.length c1) (K.map fun n : Nat => (n : Int))) := Lib.hid fun w' h => own_ints (own_but hv1 h (fun j hj e => by have := (hv1.lt j hj).1; omega)) (by rw [List.length_map])
  replace hD5 := Lib.hid hD5
  replace hres5 := Lib.hid hres5
  replace hB5 := Lib.hid hB5
  replace hv5 := Lib.hid hv5
  replace hR5 := Lib.hid hR5
  clear hS2 hD4 hR4 hv4 hres4 hB4 hbt5 hv1 hIK hz4
  go_wp2_with fail
  go_loopw [38] (fun i wr => ∃ (k : Nat) (vn : Value), k ≤ K.length ∧ i = .int .i64 k ∧ DlAt wr dp (.slice a0 gl.length c0) vn ⟨0, 0, false⟩ 0 ∧ wr.ownsRow w5.heap.size 28 3 vn k (spCells ((M.take k).map qS)) ∧ But (fun j => j = dp) w5 wr) (fun i _ => K.length - (intOf i).toNat)
  case atStart => exact ⟨0, _, Nat.zero_le _, rfl, hD5.out, World.ownsRow_nil _ _ _ _, But.refl _ _⟩
  case round =>
    clear hD5
    obtain ⟨k, vn, hk, rfl, hD, hown, hbt⟩ := hrel
    have q6 : dp < w5.heap.size := by omega
    have hBr := Lib.hid (hB5.out.trans (hbt.below (B := w.heap.size) (by omega) (fun j hj => by omega)))
    by_cases hlt : k < K.length
    · obtain ⟨ax, cx, ex, hx⟩ := hKi.out wr hbt
      simp only [Value.slice.injEq, List.length_map] at ex
      obtain ⟨rfl, -, -⟩ := ex
      obtain ⟨bK, oK, rfl, hI⟩ := hx (by simp; omega)
      have hkm : k < M.length := by have := hKl.out; omega
      have hjm : k < (K.map fun n : Nat => (n : Int)).length := by rw [List.length_map]; exact hlt
      have l1 := hI.c k hjm
      have l2 := hI.lt
      rw [List.getElem_map] at l1
      have hcx : K[k] = codeS (qS M[k]) := by have h := hK.out; subst h; rw [List.getElem_map]
      rw [hcx] at l1
      have oA := qS_ok M[k]
      obtain ⟨an, cn, rfl⟩ := own_slB hown
      have hst : Hid ((M.take (k + 1)).map qS = (M.take k).map qS ++ [qS M[k]]) := Lib.hid (by rw [take_snocI M k hkm, List.map_append]; rfl)
      have hlen : ((M.take k).map qS).length = k := by rw [List.length_map, List.length_take]; omega
      have hkS := Lib.hid (lspot_c (qS M[k]) oA wr (hF'.out.below hBr.out))
      clear hcx hx hI
      generalize qS M[k] = A at *
      replace hst := Lib.hid hst
      replace hD := Lib.hid hD
      replace hown := Lib.hid hown
      have hzr := hbt.size
      replace hbt := Lib.hid hbt
      go_wp2_with fail
      refine hkS.out.mono ?_; rintro e w6 ⟨rfl, hb6⟩
      have hD6 := (hD.out.below hb6).below (balloc (below_alloc w6 (.cells #[.int .i64 A.x, .int .i64 A.y, .bool A.far] 28)) (.cells #[.int .i64 A.x, .int .i64 A.y, .bool A.far] 28))
      have hown6 := Lib.hid (((own_below hown.out hb6).alloc (.cells #[.int .i64 A.x, .int .i64 A.y, .bool A.far] 28)).alloc (.cells #[.int .i64 A.x, .int .i64 A.y, .bool A.far] 28))
      have hbt6 := Lib.hid (hbt.out.trans (But.of_below (S := fun j => j = dp) (below_seq hb6 (balloc (below_alloc w6 (.cells #[.int .i64 A.x, .int .i64 A.y, .bool A.far] 28)) (.cells #[.int .i64 A.x, .int .i64 A.y, .bool A.far] 28)))))
      have d1 := ((hD.out.below hb6).alloc1 (.cells #[.int .i64 A.x, .int .i64 A.y, .bool A.far] 28)).c1
      have hz6 := hb6.size
      have dl6 : dp < w6.heap.size := (hD.out.below hb6).lt
      clear l1 l2 hkS hb6
      replace hD6 := Lib.hid hD6
      go_wp2_with (first | (at_builtin; refine wpl_append_spot rfl _ _ _ rfl (by kernel_rfl) w5.heap.size (.slice an k cn) ((M.take k).map qS) k rfl hown6.out hlen (by omega) (by simp only [World.size_alloc]; omega) (w6.heap.size + 1) A rfl (by go_simp) (by go_simp) (by go_simp) ?_; intro v' w8 hown' hgrow hbel hloc; have hb8 := hbel _ (Below.refl _ _); have hD8 := hD6.out.keep hb8.size (hb8.block dp q6); have hE8 := hD8; obtain ⟨av, cv, rfl⟩ := own_slB hown'; obtain ⟨d0, d1, -, -, -, -, g0, g1, -, -, -, -, dl⟩ := hE8; replace hown' := Lib.hid hown'; replace hD8 := Lib.hid hD8; replace hb8 := Lib.hid hb8; clear hgrow hloc hbel) | fail)
      have hfD := hD8.out.setn (.slice av (k + 1) cv)
      have hfo := own_keep hown'.out (w' := w8.setCell ⟨dp, 1, none⟩ (.slice av (k + 1) cv)) (fun j hj => heap_setCell_other w8 ⟨dp, 1, none⟩ j _ (by have := (hown'.out.lt j hj).1; show j ≠ dp; omega))
      have hfb := (hbt6.out.after hb8.out).trans (But.setCell (S := fun j => j = dp) (p := ⟨dp, 1, none⟩) rfl (.slice av (k + 1) cv))
      rw [← hst.out.out] at hfo
      clear d0 d1 g0 g1
      go_wp2
      go_roundw
      case rel => exact ⟨k + 1, _, by omega, by go_num, hfD, hfo, hfb⟩
      case measure => simp [intOf]; omega
    · obtain rfl : k = K.length := by omega
      have e1 : M.take K.length = M := List.take_of_length_le (by have := hKl.out; omega)
      rw [e1] at hown
      have hz6 := hbt.size
      have hR6 := hR5.out.below (hbt.below (B := dp) (Nat.le_of_lt q6) (fun j hj => by omega))
      have hv6 := own_but hv5.out hbt (fun j hj e => by have := hv0l j hj; omega)
      have hres6 := hres5.out.keep hbt.size (hbt.block _ (by omega) (fun e => by omega))
      obtain ⟨an, cn, rfl⟩ := own_slB hown
      have hnl := fun j hj => (hown.lt j hj).1
      have hN6 := Lib.hid (lnumber_c dp rb rc [s] wr hR6 (by omega) (by simp))
      have kS := Lib.hid (fun (w' : World) (hF1 : FarAt w') => lspot_c RS oR w' hF1)
      rw [hrc.out] at kS
      replace hD := Lib.hid hD
      replace hown := Lib.hid hown
      replace hv6 := Lib.hid hv6
      replace hres6 := Lib.hid hres6
      clear e1 hR5 hv5 hres5 hB5 hbt hR6 hKi hK hKb hgb hm hk hlt
      go_wp2_with fail
      refine hN6.out.mono ?_; rintro e w7 ⟨rfl, hR7, hb7⟩
      have hD7 := hD.out.keep hb7.size (hb7.block dp (by omega) (fun e => by omega))
      have hv7 := own_but hv6.out hb7 (fun j hj e => by have := hv0l j hj; omega)
      have hn7 := own_but hown.out hb7 (fun j hj e => by have := hnl j hj; omega)
      have hres7 := hres6.out.keep hb7.size (hb7.block _ (by omega) (fun e => by omega))
      have hB7 := hBr.out.trans (hb7.below (B := w.heap.size) hBr.out.size (fun j hj => by omega))
      have hz7 := hb7.size
      replace hB7 := Lib.hid hB7
      clear hb7 hN6 hD hown hv6 hres6 hBr
      go_wp2_with fail
      refine (kS.out _ (hF'.out.below hB7.out)).mono ?_; rintro e w8 ⟨rfl, hb8⟩
      have hz8 := hb8.size
      have hD8 := hD7.below hb8
      have hv8 := own_below hv7 hb8
      have hn8 := own_below hn7 hb8
      have hres8 := hres7.below hb8
      have hB8 := Lib.hid (below_seq hB7.out hb8)
      have hR8 := hR7.below (hb8.mono (by omega))
      clear hb8 hD7 hv7 hn7 hres7 hR7 hB7 kS
      have hb9 : Below dp w8 (((w8.setCell ⟨dp, 2, none⟩ (.int .i64 RS.x)).setCell ⟨dp, 3, none⟩ (.int .i64 RS.y)).setCell ⟨dp, 4, none⟩ (.bool RS.far)) := (((Below.refl dp w8).setCell (p := ⟨dp, 2, none⟩) (Nat.le_refl _) _).setCell (p := ⟨dp, 3, none⟩) (Nat.le_refl _) _).setCell (p := ⟨dp, 4, none⟩) (Nat.le_refl _) _
      have hk9 : ∀ j, j ≠ dp → (((w8.setCell ⟨dp, 2, none⟩ (.int .i64 RS.x)).setCell ⟨dp, 3, none⟩ (.int .i64 RS.y)).setCell ⟨dp, 4, none⟩ (.bool RS.far)).heap[j]? = w8.heap[j]? := fun j hj => by
        rw [heap_setCell_other _ ⟨dp, 4, none⟩ j _ hj, heap_setCell_other _ ⟨dp, 3, none⟩ j _ hj, heap_setCell_other _ ⟨dp, 2, none⟩ j _ hj]
      have hD9 := hD8.setR RS
      have hv9 := own_keep hv8 (fun j hj => hk9 j (by have := hv0l j hj; omega))
      have hn9 := own_keep hn8 (fun j hj => hk9 j (by have := hnl j hj; omega))
      have hres9 := hres8.keep hb9.size (hk9 _ (by omega))
      have hR9 := hR8.below hb9
      have hB9 := Lib.hid (hB8.out.trans (hb9.mono (by omega)))
      have hz9 : w8.heap.size ≤ (((w8.setCell ⟨dp, 2, none⟩ (.int .i64 RS.x)).setCell ⟨dp, 3, none⟩ (.int .i64 RS.y)).setCell ⟨dp, 4, none⟩ (.bool RS.far)).heap.size := hb9.size
      obtain ⟨d0, d1, d2, d3, d4, d5, g0, g1, g2, g3, g4, g5, dl⟩ := hD8
      replace hD9 := Lib.hid hD9
      replace hv9 := Lib.hid hv9
      replace hn9 := Lib.hid hn9
      replace hres9 := Lib.hid hres9
      replace hR9 := Lib.hid hR9
      clear hb9 hk9 hv8 hn8 hres8 hR8 hB8
      go_wp2_with fail
      clear d0 d1 d2 d3 d4 d5 g0 g1 g2 g3 g4 g5 dl
      generalize ((w8.setCell ⟨dp, 2, none⟩ (.int .i64 RS.x)).setCell ⟨dp, 3, none⟩ (.int .i64 RS.y)).setCell ⟨dp, 4, none⟩ (.bool RS.far) = w9 at *
      have hN9 := Lib.hid (lnumber_c dp rb s [] w9 hR9.out (by omega) (by simp))
      refine hN9.out.mono ?_; rintro e w10 ⟨rfl, -, hb10⟩
      have hz10 := hb10.size
      have hD10 := hD9.out.keep hb10.size (hb10.block dp (by omega) (fun e => by omega))
      have hv10 := own_but hv9.out hb10 (fun j hj e => by have := hv0l j hj; omega)
      have hn10 := own_but hn9.out hb10 (fun j hj e => by have := hnl j hj; omega)
      have hres10 := hres9.out.keep hb10.size (hb10.block _ (by omega) (fun e => by omega))
      have hB10 := Lib.hid (hB9.out.trans (hb10.below (B := w.heap.size) hB9.out.size (fun j hj => by omega)))
      have hD11 := hD10.setS (s : Int)
      have hk11 : ∀ j, j ≠ dp → (w10.setCell ⟨dp, 5, none⟩ (.int .i64 (s : Int))).heap[j]? = w10.heap[j]? := fun j hj => heap_setCell_other _ ⟨dp, 5, none⟩ j _ hj
      have hv11 := own_keep hv10 (fun j hj => hk11 j (by have := hv0l j hj; omega))
      have hn11 := own_keep hn10 (fun j hj => hk11 j (by have := hnl j hj; omega))
      have hres11 := hres10.keep (w' := w10.setCell ⟨dp, 5, none⟩ (.int .i64 (s : Int))) (by simp) (hk11 _ (by omega))
      have hB11 := Lib.hid (hB10.out.setCell (p := ⟨dp, 5, none⟩) (by show w.heap.size ≤ dp; omega) (.int .i64 (s : Int)))
      have d5 := hD10.c5
      have g5 := hD10.f5
      have dl := hD10.lt
      replace hD11 := Lib.hid hD11
      replace hv11 := Lib.hid hv11
      replace hn11 := Lib.hid hn11
      replace hres11 := Lib.hid hres11
      clear hD9 hv9 hn9 hres9 hR9 hB9 hN9 hb10 hD10 hv10 hn10 hres10 hB10 hk11 hz9 hz8
      go_upto_region 25 with fail
      clear d5 g5 dl
      generalize w10.setCell ⟨dp, 5, none⟩ (.int .i64 (s : Int)) = w11 at *
      have hfin := ((hres11.out.setg (.slice a0 gl.length c0)).setn (.slice an K.length cn)).set1 RS (s : Int)
      have hkF : ∀ j, j ≠ w.heap.size → ((((((w11.setCell ⟨w.heap.size, 0, none⟩ (.slice a0 gl.length c0)).setCell ⟨w.heap.size, 1, none⟩ (.slice an K.length cn)).setCell ⟨w.heap.size, 2, none⟩ (.int .i64 RS.x)).setCell ⟨w.heap.size, 3, none⟩ (.int .i64 RS.y)).setCell ⟨w.heap.size, 4, none⟩ (.bool RS.far)).setCell ⟨w.heap.size, 5, none⟩ (.int .i64 (s : Int))).heap[j]? = w11.heap[j]? := fun j hj => by
        rw [heap_setCell_other _ ⟨w.heap.size, 5, none⟩ j _ hj, heap_setCell_other _ ⟨w.heap.size, 4, none⟩ j _ hj, heap_setCell_other _ ⟨w.heap.size, 3, none⟩ j _ hj, heap_setCell_other _ ⟨w.heap.size, 2, none⟩ j _ hj, heap_setCell_other _ ⟨w.heap.size, 1, none⟩ j _ hj, heap_setCell_other _ ⟨w.heap.size, 0, none⟩ j _ hj]
      have hvF := own_base (own_keep hv11.out (fun j hj => hkF j (by have := hv0l j hj; omega))) (show w.heap.size ≤ w2.heap.size by omega)
      have hnF := own_base (own_keep hn11.out (fun j hj => hkF j (by have := hnl j hj; omega))) (show w.heap.size ≤ w5.heap.size by omega)
      have hBF : Below w.heap.size w ((((((w11.setCell ⟨w.heap.size, 0, none⟩ (.slice a0 gl.length c0)).setCell ⟨w.heap.size, 1, none⟩ (.slice an K.length cn)).setCell ⟨w.heap.size, 2, none⟩ (.int .i64 RS.x)).setCell ⟨w.heap.size, 3, none⟩ (.int .i64 RS.y)).setCell ⟨w.heap.size, 4, none⟩ (.bool RS.far)).setCell ⟨w.heap.size, 5, none⟩ (.int .i64 (s : Int))) := (((((hB11.out.setCell (p := ⟨w.heap.size, 0, none⟩) (Nat.le_refl _) _).setCell (p := ⟨w.heap.size, 1, none⟩) (Nat.le_refl _) _).setCell (p := ⟨w.heap.size, 2, none⟩) (Nat.le_refl _) _).setCell (p := ⟨w.heap.size, 3, none⟩) (Nat.le_refl _) _).setCell (p := ⟨w.heap.size, 4, none⟩) (Nat.le_refl _) _).setCell (p := ⟨w.heap.size, 5, none⟩) (Nat.le_refl _) _
      obtain ⟨d0, d1, d2, d3, d4, d5, -, -, -, -, -, -, dl⟩ := hD11.out
      obtain ⟨p0, p1, p2, p3, p4, p5, r0, r1, r2, r3, r4, r5, pl⟩ := hres11.out
      replace hfin := Lib.hid hfin
      replace hvF := Lib.hid hvF
      replace hnF := Lib.hid hnF
      replace hBF := Lib.hid hBF
      clear hkF hv11 hn11 hB11 hD11 hres11
      go_wp2
      clear d0 d1 d2 d3 d4 d5 dl p0 p1 p2 p3 p4 p5 r0 r1 r2 r3 r4 r5 pl
      obtain ⟨k0, k1, k2, k3, k4, k5, -, -, -, -, -, -, -⟩ := hfin.out
      rw [← hKl.out]
      refine bodyPost_ret (v := .tuple #[dlV (.slice a0 gl.length c0) (.slice an K.length cn) RS (s : Int), .nilIface]) (by simp [results, Tryz.results109, go_sem, k0, k1, k2, k3, k4, k5]) rfl ⟨_, _, rfl, (by have := hvF.out; rw [List.map_map] at this; exact this), hnF.out, hBF.out⟩
end Go.Proofs.YtahgaccdeakmcaaGreatDoor
namespace Go.Proofs.YtahgaccdeakmcaaGreatDoor
open Go Go.RowKit
/-- An iterator that hands out xs, all of them, and steps by St on the heap between two rounds; Kp: what a round keeps. -/
def Goes {α : Type} (F : Fence) (n : Nat) (P : Program) (g : Nat) (lb : Array Value) (encs : α → Array Value) (Kp St : World → World → Prop) (xs : List α) (w : World) : Prop :=
  ∀ (l : Nat) (J : List α → World → Prop) (W : World), Below w.heap.size w W → (∀ pre A B, J pre A → St A B → J pre B) →
    (∀ pre x W1, J pre W1 → (pre ++ [x]) <+: xs → YieldAt F (n - 1) P l (encs x) W1 fun e W' => e = .returned (.bool true) ∧ J (pre ++ [x]) W' ∧ Kp W1 W') →
    J [] W → CallsIn F n P g (#[.func (.yield l) #[] #[]] ++ lb) W fun e W' => (∃ v, e = .returned v) ∧ J xs W'
/-- A round's end where no round leaves. -/
def goesPost {α : Type} (B : Nat) (Kp : World → World → Prop) (I : List α → World → Prop) (xs : List α) (W : World) : Exit → Act → World → Prop
  | .normal, _, W' => KeepsFrom B W W' ∧ Kp W W' ∧ I xs W'
  | _, _, _ => False
theorem wpIn_goes {F : Fence} {n : Nat} {P : Program} {α : Type} {g : Operand} {ps : Array Tmp} {assign body : Code} {Q : Exit → Act → World → Prop} {a : Act} {w : World}
    (hro : F.round = none) (h1 : 1 ≤ n) {gf : Nat} {lb : Array Value} (hg : a.eval g = .func (.func gf) #[] lb) (hFg : F.fn gf) (eg : ∀ args w, (callFunc gf args).run P w = .ok (.enter gf args) w)
    {encs : α → Array Value} {Kp St : World → World → Prop} {xs : List α} {w0 : World} (hseq : Goes F (n - 1) P gf lb encs Kp St xs w0)
    (hKt : ∀ A B C, Kp A B → Kp B C → Kp A C) (hKb : ∀ (W : World) (l : Nat) (o o' : Obj), w.heap.size ≤ l → W.heap[l]? = some o → o.isCells = false → o.isWalk = false → Kp W (W.putObj l o')) (hb0 : Below w0.heap.size w0 w) (hps : ∀ x, (encs x).size = ps.size)
    (I : List α → World → Prop) (hI : OwnFrom w.heap.size I) (hIS : ∀ pre A B, I pre A → St A B → I pre B) (hSt : ∀ (A B : World) (k : Nat) (o : Obj), St A B → A.heap[k]? = some o → o.isCells = false → B.heap[k]? = some o) (h0 : I [] w) (a₁ : α → Act)
    (hassign : ∀ (l : Nat) (x : α) (W : World) (K : Act → World → Prop), K (a₁ x) W →
      assign.wpIn (F.inRound l) (n - 1 - 1) P (Exit.then K (fun _ _ _ => False)) { tmps := (ps.zip (encs x)).foldl (fun t (p, v) => t.setIfInBounds p v) a.tmps, defers := [] } W)
    (hbody : ∀ (l : Nat) (pre : List α) (x : α) (W : World), I pre W → (pre ++ [x]) <+: xs → body.wpIn (F.inRound l) (n - 1 - 1) P (goesPost w.heap.size Kp I (pre ++ [x]) W) (a₁ x) W)
    (hdone : ∀ (D : Nat) (W : World), w.heap.size ≤ D → I xs W → W.heap[D]? = some (.deferred (some [])) → Q .normal { a with defers := { target := .collected D, args := #[] } :: a.defers } W) :
    (Code.rangeFunc g ps assign body).wpIn F n P Q a w := by
  refine wpIn_rangeFunc fun fn hfn => ?_
  rw [hro]
  -- the record of the loop, by its state
  let rec' : LoopState → Loop := fun st => { state := st, pending := none, fn, tmps := a.tmps, params := ps, assign, body, defers := w.heap.size }
  obtain ⟨rc, hrc⟩ : ∃ rc, rc = rec' := ⟨_, rfl⟩
  have rst : ∀ st, (rc st).state = st := fun st => by rw [hrc]
  have rpe : ∀ st, (rc st).pending = none := fun st => by rw [hrc]
  have rset : ∀ st st', { rc st with state := st' } = rc st' := fun st st' => by rw [hrc]
  have rset2 : ∀ st st', { rc st with state := st', pending := none } = rc st' := fun st st' => by rw [hrc]
  have rfn : ∀ st, (rc st).fn = fn ∧ (rc st).tmps = a.tmps ∧ (rc st).params = ps ∧ (rc st).assign = assign ∧ (rc st).body = body := fun st => by rw [hrc]; exact ⟨rfl, rfl, rfl, rfl, rfl⟩
  obtain ⟨S, hS⟩ : ∃ S, w.heap.size = S := ⟨_, rfl⟩
  obtain ⟨W1, hW1⟩ : ∃ W1, (w.alloc (.deferred (some []))).alloc (.loop (rc .ready)) = W1 := ⟨_, rfl⟩
  -- both blocks of book-keeping, in a world
  let Bk : LoopState → World → Prop := fun st W => W.heap[S + 1]? = some (.loop (rc st)) ∧ W.heap[S]? = some (.deferred (some []))
  have hBk1 : Bk .ready W1 := by
    refine ⟨?_, ?_⟩
    · rw [← hW1, ← hS]; have := World.alloc_heap_new (w.alloc (.deferred (some []))) (.loop (rc .ready)); rwa [World.size_alloc] at this
    · rw [← hW1, ← hS]; exact (Below.heap_alloc _ _ _ (by simp)).trans (World.alloc_heap_new w _)
  have hb1 : Below w0.heap.size w0 W1 := by
    rw [← hW1]; exact hb0.trans ((((Below.refl _ w).alloc (Nat.le_refl _) _).alloc (by simp) _).mono hb0.size)
  have put : ∀ st st' W, Bk st W → Bk st' (W.putObj (S + 1) (.loop (rc st'))) := fun st st' W h =>
    ⟨World.putObj_heap_same (Array.getElem?_eq_some_iff.1 h.1).1, (World.putObj_heap_other (by omega)).trans h.2⟩
  refine ⟨S + 1, [{ target := .collected S, args := #[] }], W1, { target := .fn (.func gf) lb, args := #[.func (.yield (S + 1)) #[] #[]] }, W1, gf, #[.func (.yield (S + 1)) #[] #[]] ++ lb, W1, ?_, ?_, ?_, ?_, fun _ => h1, ?_⟩
  · rw [← hW1, hrc, ← hS]; exact run_enterLoop_outer _ _ _ _ _
  · simp only [resolve, hg]
    simp [go_sem]
  · intro f' hf'; simp [Target.leads] at hf'; subst hf'; exact hFg
  · simp [invoke, go_sem, eg]
  · refine (hseq (S + 1) (fun pre W => I pre W ∧ Bk .ready W) W1 hb1 (fun pre A B h hst => ⟨hIS pre A B h.1 hst, hSt A B _ _ hst h.2.1 rfl, hSt A B _ _ hst h.2.2 rfl⟩) ?_ ⟨by rw [← hW1]; exact hI.alloc _ (hI.alloc _ h0), hBk1⟩).mono ?_
    · rintro pre x W ⟨hi, hb⟩ hpre
      have hy := run_yield (P := P) (args := encs x) hb.1 (by rw [(rfn _).2.2.1]; exact hps x)
      obtain ⟨e1, e2, e3, e4, e5⟩ := rfn .ready
      rw [e1, e2, e3, e4, e5] at hy
      refine ⟨fn, _, assign, body, hy, roundIn_of_wpIn hfn (hassign _ x W _ ⟨_, run_beginRound hb.1 (rst _), ?_⟩)⟩
      rw [rset]
      have hb2 := put _ .busy W hb
      have hk2 : Kp W (W.putObj (S + 1) (.loop (rc .busy))) := hKb _ _ _ _ (by omega) hb.1 rfl rfl
      refine wpIn_mono (hbody _ pre x _ (hI.putObj _ hi (by omega) hb.1 rfl) hpre) ?_
      rintro e a3 W3 hp
      cases e with
      | normal =>
        obtain ⟨hk3, hkp3, hi3⟩ := hp
        have hb3 : Bk .busy W3 := ⟨hk3.same _ _ (by omega) hb2.1 rfl, hk3.same _ _ (by omega) hb2.2 rfl⟩
        have he := run_endRound (P := P) none hb3.1
        simp only [Option.isNone_none, if_true, rset2] at he
        exact ⟨_, _, he, rfl, ⟨hI.putObj _ hi3 (by omega) hb3.1 rfl, put _ .ready W3 hb3⟩, hKt _ _ _ (hKt _ _ _ hk2 hkp3) (hKb _ _ _ _ (by omega) hb3.1 rfl rfl)⟩
      | ret => exact hp.elim
      | exit id => exact hp.elim
      | goto t => exact hp.elim
      | panic ch => exact hp.elim
      | outgrown => exact hp.elim
    · rintro e W2 ⟨⟨v, rfl⟩, hi, hb⟩
      have he := run_endLoop (P := P) hb.1 (by rw [rst]; simp)
      rw [rset, rpe] at he
      refine ⟨none, _, he, ?_⟩
      have := hdone S _ (by omega) (hI.putObj (.loop (rc .exhausted)) hi (by omega) hb.1 rfl) ((World.putObj_heap_other (by omega)).trans hb.2)
      exact this
end Go.Proofs.YtahgaccdeakmcaaGreatDoor
namespace Go.Proofs.YtahgaccdeakmcaaGreatDoor
open Go.RowKit Go.Shelf
set_option maxRecDepth 100000
set_option linter.unusedVariables false
set_option linter.unusedSimpArgs false
attribute [local go_sem] Oper.semAt_some
theorem nl_split : ∀ r : List UInt8, (∀ b ∈ r, b ≠ 10) ∨ ∃ a c, r = a ++ 10 :: c ∧ ∀ b ∈ a, b ≠ 10
  | [] => .inl fun b h => absurd h List.not_mem_nil
  | x :: r => by
    by_cases hx : x = 10
    · exact .inr ⟨[], r, by rw [hx]; rfl, fun b h => absurd h List.not_mem_nil⟩
    · rcases nl_split r with h | ⟨a, c, e, h⟩
      · exact .inl fun b hb => by
          rcases List.mem_cons.1 hb with rfl | hb
          · exact hx
          · exact h b hb
      · exact .inr ⟨x :: a, c, by rw [e]; rfl, fun b hb => by
          rcases List.mem_cons.1 hb with rfl | hb
          · exact hx
          · exact h b hb⟩
theorem index_pre : ∀ (a c : List UInt8), (∀ b ∈ a, b ≠ 10) → Lib.indexByte (a ++ 10 :: c) 10 = (a.length : Int)
  | [], c, _ => by simp [Lib.indexByte]
  | x :: a, c, h => by
    have ih := index_pre a c (fun b hb => h b (List.mem_cons_of_mem _ hb))
    have hx := h x List.mem_cons_self
    rw [List.cons_append, Lib.indexByte, if_neg (by simpa using hx), ih, if_neg (by simp <;> omega), List.length_cons]
    rfl
theorem index_no : ∀ (a : List UInt8), (∀ b ∈ a, b ≠ 10) → Lib.indexByte a 10 = -1
  | [], _ => rfl
  | x :: a, h => by
    have ih := index_no a (fun b hb => h b (List.mem_cons_of_mem _ hb))
    have hx := h x List.mem_cons_self
    rw [Lib.indexByte, if_neg (by simpa using hx), ih]
    exact if_pos rfl
theorem sindex_c (s : List UInt8) (w : World) : Calls Tryz.prog 80 #[.string (bS s), .int .u8 10] w fun e w' => e = .returned (.int .i64 (Lib.indexByte s 10)) ∧ w' = w := by
  have hI := Tryz.stringslite_IndexByte (bS s) 10 w
  rw [bS_list] at hI
  replace hI := Lib.hid hI
  go_enter Tryz.func80, Tryz.ntmps80
  go_wp2_with fail
  refine hI.out.mono ?_; rintro e w' ⟨rfl, rfl⟩
  go_wp2
  go_ret
  exact ⟨rfl, rfl⟩
theorem lines_c (s : ByteArray) (w : World) :
    Calls Tryz.prog 41 #[.string s] w fun e w' => e = .returned (.func (.func 79) #[] #[.pointer (some ⟨w.heap.size, 0, none⟩)]) ∧ w' = w.alloc (.cells #[.string s] 9) := by
  go_enter Tryz.func41, Tryz.ntmps41
  go_wp2
  go_ret
  exact ⟨rfl, rfl⟩
theorem bS_extract (l m : List UInt8) (i j : Nat) (h : (l.drop i).take (j - i) = m) : (bS l).extract i j = bS m := by
  have : ((bS l).extract i j).data = (bS m).data := by
    apply Array.ext'
    rw [Lib.extract_data, bS_list, bS_list]; exact h
  exact ByteArray.ext this
/-- A step of the iterator: what is left is stored. -/
def LnSt (Bs : Nat) (A B : World) : Prop := ∃ u : Value, B = A.setCell ⟨Bs, 0, none⟩ u ∨ B = (A.setCell ⟨Bs, 0, none⟩ u).drew
/-- What a round keeps: the box of what is left. -/
def LnKp (Bs : Nat) (W W' : World) : Prop := W'.heap[Bs]? = W.heap[Bs]?
set_option maxHeartbeats 2000000 in
theorem lines1_in (l Bs : Nat) (t : List UInt8) (ht : t.length ≤ 9223372036854775807) (J : List (List UInt8) → World → Prop) (hJ : ∀ pre A B, J pre A → LnSt Bs A B → J pre B)
    (hY : ∀ pre x W1, J pre W1 → (pre ++ [x]) <+: linesL t → YieldAt Fence.wide 3 Tryz.prog l #[.string (bS x)] W1 fun e W' => e = .returned (.bool true) ∧ J (pre ++ [x]) W' ∧ LnKp Bs W1 W')
    (W : World) (hBs : W.cell? ⟨Bs, 0, none⟩ = some (.string (bS t))) (hBf : W.frozen? ⟨Bs, 0, none⟩ = false) (h0 : J [] W) :
    CallsIn Fence.wide 4 Tryz.prog 79 #[.func (.yield l) #[] #[], .pointer (some ⟨Bs, 0, none⟩)] W fun e W' => (∃ v, e = .returned v) ∧ J (linesL t) W' := by
  refine callsIn_of_wp Tryz.func79 rfl trivial ?_ rfl
  simp only [Tryz.ntmps79, List.size_toArray, List.length_cons, List.length_nil, Nat.reduceAdd, Nat.reduceSub, Array.replicate_succ, Array.replicate_zero, List.push_toArray, List.append_toArray, List.nil_append, List.cons_append]
  gi_wp2
  gi_loopw [] (fun wr => ∃ (pre : List (List UInt8)) (r : List UInt8), linesL t = pre ++ linesL r ∧ r.length ≤ t.length ∧ wr.cell? ⟨Bs, 0, none⟩ = some (.string (bS r)) ∧ wr.frozen? ⟨Bs, 0, none⟩ = false ∧ J pre wr)
    (fun wr => match wr.cell? ⟨Bs, 0, none⟩ with | some (.string s) => s.size | _ => 0)
  case atStart => exact ⟨[], t, rfl, Nat.le_refl _, hBs, hBf, h0⟩
  case round =>
    obtain ⟨pre, r, hr, hl, hc, hf, hj⟩ := hrel
    by_cases hr0 : r = []
    · subst hr0
      have hz : (bS []).size = 0 := rfl
      have e : linesL t = pre := by rw [hr]; exact List.append_nil _
      have hj' : J (linesL t) wr := by rw [e]; exact hj
      clear hr e hj
      gi_wp2
      go_end0
      exact ⟨⟨_, rfl⟩, hj'⟩
    · have hp : 0 < (bS r).size := by rw [bS_size]; exact List.length_pos_iff.2 hr0
      have hz2 : (bS r).size = r.length := bS_size r
      replace hz2 := Lib.hid hz2
      rcases nl_split r with hn | ⟨a, c, he, ha⟩
      · have hx : Lib.indexByte r 10 = -1 := index_no r hn
        have hI := sindex_c r wr
        rw [hx] at hI
        have hl1 : linesL r = [r] := linesL_last r hn hr0
        rw [hl1] at hr
        replace hI := Lib.hid hI
        clear hl1 hx hn hr0
        have hj2 := hJ pre wr (wr.setCell ⟨Bs, 0, none⟩ (.string ⟨#[]⟩)) hj ⟨_, .inl rfl⟩
        obtain ⟨fn, tmps, assign, body, hy, hR⟩ := hY pre r _ hj2 (by rw [hr]; exact List.prefix_refl _)
        replace hr := Lib.hid hr
        replace hR := Lib.hid hR
        gi_wp2_with (refine ⟨trivial, ?_⟩; gi_at_call 80; refine (callsIn_wide.2 hI.out).mono ?_; rintro e w' ⟨rfl, rfl⟩)
        refine hR.out.mono ?_
        rintro e W3 ⟨rfl, hJ3, hk3⟩
        have hc3 : W3.cell? ⟨Bs, 0, none⟩ = some (.string (bS [])) := (World.cell?_of_block (a := ⟨Bs, 0, none⟩) hk3).trans (World.cell?_setCell_same _ _ _ hc)
        have hf3 : W3.frozen? ⟨Bs, 0, none⟩ = false := (World.frozen?_of_block (a := ⟨Bs, 0, none⟩) hk3).trans (by simpa using hf)
        have hp' := Lib.hid hp
        have hc' := Lib.hid hc
        clear hp hc hf hy hR hI hj hj2
        gi_wp2
        go_roundw
        case rel => exact ⟨pre ++ [r], [], by rw [hr.out]; simp [linesL, linesGo], Nat.zero_le _, hc3, hf3, hJ3⟩
        case measure => rw [hc3, hc'.out]; exact hp'.out
      · subst he
        have hx : Lib.indexByte (a ++ 10 :: c) 10 = (a.length : Int) := index_pre a c ha
        have hI := sindex_c (a ++ 10 :: c) wr
        rw [hx] at hI
        have hl1 : linesL (a ++ 10 :: c) = (a ++ [10]) :: linesL c := linesL_cons a c ha
        rw [hl1] at hr
        replace hI := Lib.hid hI
        have hs1 : (bS (a ++ 10 :: c)).extract 0 (a.length + 1) = bS (a ++ [10]) := bS_extract _ _ _ _ (by rw [List.drop_zero, Nat.sub_zero, show a ++ 10 :: c = (a ++ [10]) ++ c by simp]; exact List.take_left' (by simp))
        have hs2 : (bS (a ++ 10 :: c)).extract (a.length + 1) (bS (a ++ 10 :: c)).size = bS c := bS_extract _ _ _ _ (by rw [show a ++ 10 :: c = (a ++ [10]) ++ c by simp, List.drop_left' (by simp)]; exact List.take_of_length_le (by rw [bS_size]; simp; omega))
        have hla : a.length + 1 ≤ (bS (a ++ 10 :: c)).size := by rw [bS_size]; simp
        have hlb : (bS (a ++ 10 :: c)).size ≤ 9223372036854775807 := by rw [bS_size]; omega
        clear hl1 hx hr0
        generalize hR0 : bS (a ++ 10 :: c) = R at *
        replace hR0 := Lib.hid hR0
        gi_wp2_with (refine ⟨trivial, ?_⟩; gi_at_call 80; refine (callsIn_wide.2 hI.out).mono ?_; rintro e w' ⟨rfl, rfl⟩)
        gi_region
        have hj2 := hJ pre w' (w'.setCell ⟨Bs, 0, none⟩ (.string (bS c))).drew hj ⟨_, .inr rfl⟩
        obtain ⟨fn, tmps, assign, body, hy, hR⟩ := hY pre (a ++ [10]) _ hj2 (by rw [hr]; exact ⟨linesL c, by simp⟩)
        replace hr := Lib.hid hr
        replace hR := Lib.hid hR
        gi_wp2
        refine hR.out.mono ?_
        rintro e W3 ⟨rfl, hJ3, hk3⟩
        have hc3 : W3.cell? ⟨Bs, 0, none⟩ = some (.string (bS c)) := (World.cell?_of_block (a := ⟨Bs, 0, none⟩) hk3).trans (World.cell?_setCell_same _ _ _ hc)
        have hf3 : W3.frozen? ⟨Bs, 0, none⟩ = false := (World.frozen?_of_block (a := ⟨Bs, 0, none⟩) hk3).trans (by rw [frozen_drew_own]; simpa using hf)
        have hms : Hid ((bS c).size < R.size) := Lib.hid (by rw [hz2.out, bS_size]; simp; omega)
        have hc' := Lib.hid hc
        clear hp hc hf hy hR hI hj hj2 hs1 hs2 hla hlb
        gi_wp2
        go_roundw
        case rel => exact ⟨pre ++ [a ++ [10]], c, by rw [hr.out]; simp, by simp at hl; omega, hc3, hf3, hJ3⟩
        case measure => rw [hc3, hc'.out]; exact hms.out
theorem lines_goes (Bs : Nat) (t : List UInt8) (ht : t.length ≤ 9223372036854775807) (w : World) (hB : Bs < w.heap.size) (hc : w.cell? ⟨Bs, 0, none⟩ = some (.string (bS t))) (hf : w.frozen? ⟨Bs, 0, none⟩ = false) :
    Goes Fence.wide 4 Tryz.prog 79 #[.pointer (some ⟨Bs, 0, none⟩)] (fun x : List UInt8 => #[Value.string (bS x)]) (LnKp Bs) (LnSt Bs) (linesL t) w := fun l J W hW hJ hY h0 =>
  lines1_in l Bs t ht J hJ hY W ((hW.cell (p := ⟨Bs, 0, none⟩) hB).trans hc) ((hW.frozen (p := ⟨Bs, 0, none⟩) hB).trans hf) h0
end Go.Proofs.YtahgaccdeakmcaaGreatDoor
namespace Go.Proofs.YtahgaccdeakmcaaGreatDoor
open Go.RowKit
set_option maxRecDepth 100000
set_option linter.unusedVariables false
set_option linter.unusedSimpArgs false
theorem errVB_ne {n : Int} (h : n ≠ 0) : errV n = .iface 94 (.int .i64 n) := by unfold errV; rw [if_neg h]
theorem gErrB_0 {G : List Bool} {pre : List Int} {g : Int} (h : gErrB G pre g = 0) : 0 ≤ g ∧ g < G.length := by
  unfold gErrB at h
  by_cases h1 : g < 0 ∨ (G.length : Int) ≤ g
  · rw [if_pos h1] at h; omega
  · omega
set_option maxHeartbeats 4000000 in
theorem bdo_e (p : Nat) (a0 a1 : Option Addr) (n m c0 c1 : Nat) (RS : Sp) (s E : Int) (w : World)
    (hEx : Hid (∀ w1 : World, Below w.heap.size w w1 → Calls Tryz.prog 36 #[.pointer (some ⟨p, 0, none⟩), .slice a0 n c0, .slice a1 m c1] w1 fun e w' => e = .returned (.tuple #[spV ⟨0, 0, false⟩, .iface 94 (.int .i64 E)]) ∧ Below w1.heap.size w1 w')) :
    Calls Tryz.prog 38 #[.pointer (some ⟨p, 0, none⟩), dlV (.slice a0 n c0) (.slice a1 m c1) RS s] w fun e w' => e = .returned (.iface 94 (.int .i64 E)) ∧ Below w.heap.size w w' := by
  go_enter Tryz.func38, Tryz.ntmps38
  go_wp2_with fail
  have hb0 := Lib.hid (below_alloc w (.cells #[.slice a0 n c0, .slice a1 m c1, .int .i64 RS.x, .int .i64 RS.y, .bool RS.far, .int .i64 s] 46))
  refine (hEx.out _ hb0.out).mono ?_; rintro e w1 ⟨rfl, hb1⟩
  have hB1 := Lib.hid (below_seq hb0.out hb1)
  clear hb1 hb0 hEx
  go_wp2
  go_ret
  exact ⟨rfl, balloc hB1.out _⟩
theorem did_same {w w' : World} {B p : Nat} {vc vg : Value} {N : List Int} {G : List Bool} (h : BkV w B p vc vg N G) (hb : Below w.heap.size w w') : Did w w' B p vc vg N G := ⟨vc, vg, h.below hb, fun _ hk => .inl hk, But.of_below hb⟩
/-- What a deal asks of the slices: they lie, and not in the book. -/
structure Lies (w : World) (p : Nat) (vc vg : Value) (a0 a1 : Option Addr) (gl : List Int) (C : List Sp) : Prop where
  g : 0 < gl.length → ∃ b o, a0 = some ⟨b, o, none⟩ ∧ IntsAt w b o gl ∧ ¬ inB p vc vg b
  n : 0 < C.length → ∃ b o, a1 = some ⟨b, o, none⟩ ∧ SpotsAt w b o C ∧ ¬ inB p vc vg b
end Go.Proofs.YtahgaccdeakmcaaGreatDoor
namespace Go.Proofs.YtahgaccdeakmcaaGreatDoor
open Go.RowKit Go.Shelf
set_option maxRecDepth 100000
set_option linter.unusedVariables false
set_option linter.unusedSimpArgs false
attribute [local go_sem] Oper.semAt_some
/-- A deal, as a record tells it. -/
structure Rec where
  gl : List Nat
  M : List Int
  R : Sp
  s : Nat
def Rec.G (d : Rec) : List Int := d.gl.map fun n : Nat => (n : Int)
def recX (d : Rec) : List UInt8 := recD d.gl d.M d.R d.s
structure RecOk (d : Rec) : Prop where
  g1 : d.gl.length ≤ 1000
  gb : ∀ g ∈ d.gl, g < 1000000
  m : d.M.length ≤ 12
  o : Ok d.R
  s1 : d.s < 1013
theorem RecOk.kb {d : Rec} (h : RecOk d) : ∀ n ∈ (d.M.map fun m => codeS (qS m)), n < 1000000 := fun n hn => by
  rw [List.mem_map] at hn
  obtain ⟨m, -, rfl⟩ := hn
  have := codeS_lt (qS_ok m); omega
theorem RecOk.len {d : Rec} (h : RecOk d) : 2 ≤ (recX d).length ∧ (recX d).length ≤ 20000 :=
  recB_len d.gl _ _ d.s h.gb h.kb h.g1 (by rw [List.length_map]; have := h.m; omega) (by have := codeS_lt h.o; omega) (by have := h.s1; omega)
theorem recX_line (d : Rec) : LineB (recX d) := recB_line _ _ _ _
def stepG (G : List Bool) (d : Rec) : List Bool := goneL G d.G ++ List.replicate d.M.length false
/-- The deal is done by a book that has these coins, of which these are gone. -/
structure Done (N : List Int) (G : List Bool) (d : Rec) : Prop where
  ok : RecOk d
  hN : N.length + d.M.length ≤ 1000
  run : ∀ (B p : Nat) (vc vg : Value) (a0 a1 : Option Addr) (c0 c1 : Nat) (w : World), FarAt w → BkV w B p vc vg N G → B ≤ w.heap.size → d.gl.length ≤ c0 → c0 ≤ 9223372036854775807 → Lies w p vc vg a0 a1 d.G (d.M.map qS) →
    Calls Tryz.prog 38 #[.pointer (some ⟨p, 0, none⟩), dlV (.slice a0 d.gl.length c0) (.slice a1 d.M.length c1) d.R (d.s : Int)] w fun e w' => e = .returned .nilIface ∧ Did w w' B p vc vg (N ++ d.M) (stepG G d)
def stN (M0 : List Int) (ds : List Rec) : List Int := ds.foldl (fun N d => N ++ d.M) M0
def stG (M0 : List Int) (ds : List Rec) : List Bool := ds.foldl stepG (List.replicate M0.length false)
theorem stN_snoc (M0 : List Int) (ds : List Rec) (d : Rec) : stN M0 (ds ++ [d]) = stN M0 ds ++ d.M := by unfold stN; rw [List.foldl_append]; rfl
theorem stG_snoc (M0 : List Int) (ds : List Rec) (d : Rec) : stG M0 (ds ++ [d]) = stepG (stG M0 ds) d := by unfold stG; rw [List.foldl_append]; rfl
/-- All of them are done, one behind the other. -/
def DoneAll (M0 : List Int) (ds : List Rec) : Prop := ∀ i (h : i < ds.length), Done (stN M0 (ds.take i)) (stG M0 (ds.take i)) ds[i]
theorem DoneAll.nil (M0 : List Int) : DoneAll M0 [] := fun i h => absurd h (Nat.not_lt_zero _)
theorem DoneAll.snoc {M0 : List Int} {ds : List Rec} {d : Rec} (h : DoneAll M0 ds) (hd : Done (stN M0 ds) (stG M0 ds) d) : DoneAll M0 (ds ++ [d]) := fun i hi => by
  rw [List.length_append] at hi
  by_cases h1 : i < ds.length
  · rw [List.take_append_of_le_length (Nat.le_of_lt h1), List.getElem_append_left h1]; exact h i h1
  · obtain rfl : i = ds.length := by simp at hi; omega
    rw [List.take_left, List.getElem_append_right (Nat.le_refl _)]
    simpa using hd
theorem DoneAll.take {M0 : List Int} {ds : List Rec} (h : DoneAll M0 ds) (k : Nat) : DoneAll M0 (ds.take k) := fun i hi => by
  rw [List.length_take] at hi
  have := h i (by omega)
  rw [List.take_take, Nat.min_eq_left (by omega), List.getElem_take]
  exact this
def recsB (ds : List Rec) : List (List UInt8) := ds.map recX
theorem recsB_line (ds : List Rec) : ∀ l ∈ recsB ds, LineB l := fun l hl => by
  unfold recsB at hl
  rw [List.mem_map] at hl
  obtain ⟨d, -, rfl⟩ := hl
  exact recX_line d
theorem DoneAll.all {M0 : List Int} {ds : List Rec} (h : DoneAll M0 ds) : ∀ d ∈ ds, RecOk d := fun d hd => by
  obtain ⟨i, hi, rfl⟩ := List.getElem_of_mem hd
  exact (h i hi).ok
theorem recsB_len : ∀ (ds : List Rec), (∀ d ∈ ds, RecOk d) → (recsB ds).flatten.length ≤ 20000 * ds.length
  | [], _ => Nat.zero_le _
  | d :: ds, h => by
    have h1 := recsB_len ds (fun x hx => h x (List.mem_cons_of_mem _ hx))
    have h2 := (h d List.mem_cons_self).len.2
    unfold recsB at h1 ⊢
    rw [List.map_cons, List.flatten_cons, List.length_append, List.length_cons]
    omega
/-- A book whose base is lower. -/
theorem BkV.base {w : World} {B B' p : Nat} {vc vg : Value} {N : List Int} {G : List Bool} (h : BkV w B' p vc vg N G) (hB : B ≤ B') : BkV w B p vc vg N G :=
  ⟨h.c0, h.c1, h.f0, h.f1, h.lt, Nat.le_trans hB h.bp, own_base h.rc hB, own_base h.rg hB, h.ln, h.ap, h.nc, h.ng⟩
theorem cells_of_cell {w : World} {a : Addr} {v : Value} (h : w.cell? a = some v) : ∃ o : Obj, w.heap[a.block]? = some o ∧ o.isCells = true := by
  unfold World.cell? at h
  cases ho : w.heap[a.block]? with
  | none => simp [ho] at h
  | some o => exact ⟨o, rfl, by cases o <;> simp_all [Obj.isCells]⟩
theorem own_cells {w : World} {B e size n : Nat} {v : Value} {xs : List Value} (h : w.ownsRow B e size v n xs) (k : Nat) (hk : v.ownBlock = some k) : ∃ o : Obj, w.heap[k]? = some o ∧ o.isCells = true := by
  rcases h.2 with ⟨rfl, -⟩ | ⟨g, cap, cur, rfl, -, hg, -⟩
  · cases hk
  · cases hk; exact ⟨_, hg, rfl⟩
theorem BkV.cells {w : World} {B p : Nat} {vc vg : Value} {N : List Int} {G : List Bool} (h : BkV w B p vc vg N G) (k : Nat) (hk : inB p vc vg k) : ∃ o : Obj, w.heap[k]? = some o ∧ o.isCells = true := by
  rcases hk with rfl | hk | hk
  · exact cells_of_cell h.c0
  · exact own_cells h.rc k hk
  · exact own_cells h.rg k hk
theorem BkV.turn {w w' : World} {B p : Nat} {vc vg : Value} {N : List Int} {G : List Bool} {row : Option Nat} (h : BkV w B p vc vg N G) (hg : w.grownBy w' row) (hr : ∀ r, row = some r → ∃ o : Obj, w.heap[r]? = some o ∧ o.isCells = false) : BkV w' B p vc vg N G :=
  h.keep hg.size fun k hk => hg.block k (h.blk k hk).2 fun e => by
    obtain ⟨o, h1, h2⟩ := h.cells k hk
    obtain ⟨o', h3, h4⟩ := hr k e.symm
    rw [h1] at h3; cases h3; rw [h2] at h4; cases h4
/-- The block of a log. -/
structure QAt (w : World) (q : Nat) (v0 v1 v2 v3 v4 v5 : Value) : Prop where
  c0 : w.cell? ⟨q, 0, none⟩ = some v0
  c1 : w.cell? ⟨q, 1, none⟩ = some v1
  c2 : w.cell? ⟨q, 2, none⟩ = some v2
  c3 : w.cell? ⟨q, 3, none⟩ = some v3
  c4 : w.cell? ⟨q, 4, none⟩ = some v4
  c5 : w.cell? ⟨q, 5, none⟩ = some v5
  f : ∀ o, w.frozen? ⟨q, o, none⟩ = false
  lt : q < w.heap.size
theorem QAt.keep {w w' : World} {q : Nat} {v0 v1 v2 v3 v4 v5 : Value} (h : QAt w q v0 v1 v2 v3 v4 v5) (hs : w.heap.size ≤ w'.heap.size) (hb : w'.heap[q]? = w.heap[q]?) : QAt w' q v0 v1 v2 v3 v4 v5 := by
  have c : ∀ o, w'.cell? ⟨q, o, none⟩ = w.cell? ⟨q, o, none⟩ := fun o => World.cell?_of_block (a := ⟨q, o, none⟩) hb
  have f : ∀ o, w'.frozen? ⟨q, o, none⟩ = w.frozen? ⟨q, o, none⟩ := fun o => World.frozen?_of_block (a := ⟨q, o, none⟩) hb
  exact ⟨(c 0).trans h.c0, (c 1).trans h.c1, (c 2).trans h.c2, (c 3).trans h.c3, (c 4).trans h.c4, (c 5).trans h.c5, fun o => (f o).trans (h.f o), Nat.lt_of_lt_of_le h.lt hs⟩
theorem QAt.below {w w' : World} {q : Nat} {v0 v1 v2 v3 v4 v5 : Value} (h : QAt w q v0 v1 v2 v3 v4 v5) (hb : Below w.heap.size w w') : QAt w' q v0 v1 v2 v3 v4 v5 := h.keep hb.size (hb.block q h.lt)
theorem QAt.cells {w : World} {q : Nat} {v0 v1 v2 v3 v4 v5 : Value} (h : QAt w q v0 v1 v2 v3 v4 v5) : ∃ o : Obj, w.heap[q]? = some o ∧ o.isCells = true := cells_of_cell h.c0
theorem set_c {w : World} {q i j : Nat} {v u : Value} (h : w.cell? ⟨q, j, none⟩ = some v) (hij : j ≠ i) : (w.setCell ⟨q, i, none⟩ u).cell? ⟨q, j, none⟩ = some v :=
  (World.cell?_setCell_other _ _ _ _ (fun e => hij (congrArg Addr.off e).symm)).trans h
theorem QAt.set1 {w : World} {q : Nat} {v0 v1 v2 v3 v4 v5 : Value} (h : QAt w q v0 v1 v2 v3 v4 v5) (u : Value) : QAt (w.setCell ⟨q, 1, none⟩ u) q v0 u v2 v3 v4 v5 :=
  ⟨set_c h.c0 (by decide), World.cell?_setCell_same _ _ _ h.c1, set_c h.c2 (by decide), set_c h.c3 (by decide), set_c h.c4 (by decide), set_c h.c5 (by decide), fun o => by simpa using h.f o, by simpa using h.lt⟩
theorem QAt.set2 {w : World} {q : Nat} {v0 v1 v2 v3 v4 v5 : Value} (h : QAt w q v0 v1 v2 v3 v4 v5) (u : Value) : QAt (w.setCell ⟨q, 2, none⟩ u) q v0 v1 u v3 v4 v5 :=
  ⟨set_c h.c0 (by decide), set_c h.c1 (by decide), World.cell?_setCell_same _ _ _ h.c2, set_c h.c3 (by decide), set_c h.c4 (by decide), set_c h.c5 (by decide), fun o => by simpa using h.f o, by simpa using h.lt⟩
theorem QAt.set3 {w : World} {q : Nat} {v0 v1 v2 v3 v4 v5 : Value} (h : QAt w q v0 v1 v2 v3 v4 v5) (u : Value) : QAt (w.setCell ⟨q, 3, none⟩ u) q v0 v1 v2 u v4 v5 :=
  ⟨set_c h.c0 (by decide), set_c h.c1 (by decide), set_c h.c2 (by decide), World.cell?_setCell_same _ _ _ h.c3, set_c h.c4 (by decide), set_c h.c5 (by decide), fun o => by simpa using h.f o, by simpa using h.lt⟩
theorem QAt.set4 {w : World} {q : Nat} {v0 v1 v2 v3 v4 v5 : Value} (h : QAt w q v0 v1 v2 v3 v4 v5) (u : Value) : QAt (w.setCell ⟨q, 4, none⟩ u) q v0 v1 v2 v3 u v5 :=
  ⟨set_c h.c0 (by decide), set_c h.c1 (by decide), set_c h.c2 (by decide), set_c h.c3 (by decide), World.cell?_setCell_same _ _ _ h.c4, set_c h.c5 (by decide), fun o => by simpa using h.f o, by simpa using h.lt⟩
theorem QAt.set5 {w : World} {q : Nat} {v0 v1 v2 v3 v4 v5 : Value} (h : QAt w q v0 v1 v2 v3 v4 v5) (u : Value) : QAt (w.setCell ⟨q, 5, none⟩ u) q v0 v1 v2 v3 v4 u :=
  ⟨set_c h.c0 (by decide), set_c h.c1 (by decide), set_c h.c2 (by decide), set_c h.c3 (by decide), set_c h.c4 (by decide), World.cell?_setCell_same _ _ _ h.c5, fun o => by simpa using h.f o, by simpa using h.lt⟩
end Go.Proofs.YtahgaccdeakmcaaGreatDoor
namespace Go.Proofs.YtahgaccdeakmcaaGreatDoor
open Go.RowKit Go.Shelf
set_option maxRecDepth 100000
set_option linter.unusedVariables false
set_option linter.unusedSimpArgs false
attribute [local go_sem] Oper.semAt_some
/-- Between two rounds: a book with so many deals done; the two boxes; the log's block. -/
def RdI (w : World) (M0 : List Int) (ds : List Rec) (kb Bs p q : Nat) (v0 v1 v2 v3 v4 v5 : Value) (pre : List (List UInt8)) (W : World) : Prop :=
  ∃ vc vg, BkV W (w.heap.size + 1) p vc vg (stN M0 (ds.take pre.length)) (stG M0 (ds.take pre.length)) ∧ (∀ k, inB p vc vg k → k ≠ kb ∧ k ≠ Bs) ∧ W.cell? ⟨kb, 0, none⟩ = some (.pointer (some ⟨p, 0, none⟩)) ∧ W.cell? ⟨w.heap.size, 0, none⟩ = some .nilIface ∧ W.frozen? ⟨w.heap.size, 0, none⟩ = false ∧ Bs < W.heap.size ∧ Below w.heap.size w W
theorem cell_turn {w w' : World} {row : Option Nat} {a : Addr} {v : Value} (h : w.cell? a = some v) (hg : w.grownBy w' row) (hr : ∀ r, row = some r → ∃ o : Obj, w.heap[r]? = some o ∧ o.isCells = false) : w'.cell? a = w.cell? a ∧ w'.frozen? a = w.frozen? a := by
  obtain ⟨o, h1, h2⟩ := cells_of_cell h
  have hb : w'.heap[a.block]? = w.heap[a.block]? := hg.block _ (Array.getElem?_eq_some_iff.1 h1).1 fun e => by
    obtain ⟨o', h3, h4⟩ := hr _ e.symm
    rw [h1] at h3; cases h3; rw [h2] at h4; cases h4
  exact ⟨World.cell?_of_block hb, World.frozen?_of_block hb⟩
theorem RdI.own (w : World) (M0 : List Int) (ds : List Rec) (kb Bs p q : Nat) (v0 v1 v2 v3 v4 v5 : Value) (B : Nat) (hB : w.heap.size ≤ B) : OwnFrom B (RdI w M0 ds kb Bs p q v0 v1 v2 v3 v4 v5) := fun pre A W row hI hg hr => by
  obtain ⟨vc, vg, hv, hne, h1, h2, h3, h4, h5⟩ := hI
  have hr' := fun r e => (hr r e).2
  obtain ⟨e1, -⟩ := cell_turn h1 hg hr'
  obtain ⟨e2, e3⟩ := cell_turn h2 hg hr'
  exact ⟨vc, vg, hv.turn hg hr', hne, e1.trans h1, e2.trans h2, e3.trans h3, Nat.lt_of_lt_of_le h4 hg.size, h5.grown hg h5.size (fun k e => Nat.le_trans hB (hr k e).1)⟩
theorem RdI.step (w : World) (M0 : List Int) (ds : List Rec) (kb Bs p q : Nat) (v0 v1 v2 v3 v4 v5 : Value) (hk : kb ≠ Bs) (hB : w.heap.size < Bs) : ∀ pre A W, RdI w M0 ds kb Bs p q v0 v1 v2 v3 v4 v5 pre A → LnSt Bs A W → RdI w M0 ds kb Bs p q v0 v1 v2 v3 v4 v5 pre W := fun pre A W hI hst => by
  obtain ⟨vc, vg, hv, hne, h1, h2, h3, h4, h5⟩ := hI
  have key : ∀ u, RdI w M0 ds kb Bs p q v0 v1 v2 v3 v4 v5 pre (A.setCell ⟨Bs, 0, none⟩ u) := fun u => by
    have hb := But.setCell (S := fun k => k = Bs) (a := A) (p := ⟨Bs, 0, none⟩) rfl u
    exact ⟨vc, vg, hv.but hb (fun k h e => (hne k h).2 e), hne, by rw [World.cell?_setCell_other (h := by simp <;> omega)]; exact h1, by rw [World.cell?_setCell_other (h := by simp <;> omega)]; exact h2, by simpa using h3, by simpa using h4, h5.setCell (p := ⟨Bs, 0, none⟩) (by show w.heap.size ≤ Bs; omega) u⟩
  obtain ⟨u, rfl | rfl⟩ := hst
  · exact key u
  · obtain ⟨vc, vg, hv, hne, h1, h2, h3, h4, h5⟩ := key u
    exact ⟨vc, vg, hv.below (Below.refl _ _).drew, hne, h1, h2, h3, h4, h5.drew⟩
theorem own_lies {w : World} {B e : Nat} {a : Option Addr} {n cap : Nat} {l : List Int} (h : w.ownsRow B e 1 (.slice a n cap) n (l.map (Value.int .i64))) (hn : n = l.length) : 0 < l.length → ∃ b o, a = some ⟨b, o, none⟩ ∧ IntsAt w b o l ∧ B ≤ b := fun h0 => by
  obtain ⟨a', c', e', h'⟩ := own_ints h hn
  simp only [Value.slice.injEq] at e'
  obtain ⟨rfl, -, -⟩ := e'
  obtain ⟨b, o, rfl, hI⟩ := h' h0
  exact ⟨b, o, rfl, hI, (h.lt b rfl).1⟩
theorem own_lieS {w : World} {B e : Nat} {a : Option Addr} {n cap : Nat} {l : List Sp} (h : w.ownsRow B e 3 (.slice a n cap) n (spCells l)) (hn : n = l.length) : 0 < l.length → ∃ b o, a = some ⟨b, o, none⟩ ∧ SpotsAt w b o l ∧ B ≤ b := fun h0 => by
  obtain ⟨a', c', e', h'⟩ := own_spots h hn
  simp only [Value.slice.injEq] at e'
  obtain ⟨rfl, -, -⟩ := e'
  obtain ⟨b, o, rfl, hI⟩ := h' h0
  exact ⟨b, o, rfl, hI, (h.lt b rfl).1⟩
theorem own_cap {w : World} {B e size n : Nat} {a : Option Addr} {cap : Nat} {xs : List Value} (h : w.ownsRow B e size (.slice a n cap) n xs) : n ≤ cap ∧ cap ≤ 9223372036854775807 := by
  rcases h.2 with ⟨h1, h2⟩ | ⟨g, c, cur, h1, -, -, h2, h3, -⟩
  · simp only [Value.slice.injEq] at h1; omega
  · simp only [Value.slice.injEq] at h1; unfold maxLen at h3; omega
set_option maxHeartbeats 16000000 in
theorem lredo_c (M0 : List Int) (ds : List Rec) (hG : DoneAll M0 ds) (hM : M0.length ≤ 12) (hds : ds.length ≤ 1000) (q : Nat) (ac : Option Addr) (cc : Nat) (v1 v2 v3 v4 v5 : Value) (w : World) (hF : FarAt w) (hA : AscAt w) (hQ : QAt w q (.slice ac M0.length cc) v1 v2 v3 v4 v5)
    (hL : 0 < (M0.map qS).length → ∃ b o, ac = some ⟨b, o, none⟩ ∧ SpotsAt w b o (M0.map qS)) :
    Calls Tryz.prog 59 #[.pointer (some ⟨q, 0, none⟩), .string (bS (recsB ds).flatten)] w fun e w' => e = .returned .nilIface ∧ ∃ p vc vg, QAt w' q (.slice ac M0.length cc) (.pointer (some ⟨p, 0, none⟩)) v2 v3 v4 v5 ∧ BkV w' w.heap.size p vc vg (stN M0 ds) (stG M0 ds) ∧ But (fun k => k = q) w w' := by
  have hlen := recsB_len ds hG.all
  have hlin : linesL (recsB ds).flatten = recsB ds := linesL_recs _ (recsB_line ds)
  have kNew := Lib.hid (fun (w1 : World) (hb : Below w.heap.size w w1) => bnew_y M0 ac cc w1 hM (hF.below hb) (fun h => by obtain ⟨b, o, e, hs⟩ := hL h; exact ⟨b, o, e, hs.below hb⟩))
  have q0 := hQ.c0
  have ql := hQ.lt
  obtain ⟨TX, hTX⟩ : ∃ TX, (recsB ds).flatten = TX := ⟨_, rfl⟩
  rw [hTX] at hlen hlin ⊢
  replace hG := Lib.hid hG
  have hF' := Lib.hid hF
  have hA' := Lib.hid hA
  have hQ' := Lib.hid hQ
  replace hTX := Lib.hid hTX
  replace hlin := Lib.hid hlin
  clear hQ hF hA hL
  refine (callsIn_wide (n := 6)).1 ?_
  refine callsIn_of_wp_marks Tryz.func59 rfl trivial ?_
  simp only [Tryz.ntmps59, List.size_toArray, List.length_cons, List.length_nil, Nat.reduceAdd, Nat.reduceSub, Array.replicate_succ, Array.replicate_zero, List.push_toArray, List.append_toArray, List.nil_append, List.cons_append]
  refine wpIn_wide.2 ?_
  generalize hQq : bodyPostM _ _ _ _ _ = QQ
  replace hQq := Lib.hid hQq
  go_wp2_with fail
  refine (kNew.out _ (below_alloc _ _)).mono ?_; rintro e w1 ⟨p, rfl, hbk, hb1⟩
  rw [World.size_alloc] at hbk
  have hB1 := Lib.hid (below_seq (below_alloc w _) hb1)
  have q0' := ((bcell hB1.out).1 _ 0 ql).trans q0
  have hz1 := hb1.size
  rw [World.size_alloc] at hz1
  have r0 : w1.cell? ⟨w.heap.size, 0, none⟩ = some .nilIface := ((bcell hb1).1 _ 0 (by simp)).trans (by go_simp)
  have r1 : w1.frozen? ⟨w.heap.size, 0, none⟩ = false := ((bcell hb1).2 _ 0 (by simp)).trans (by go_simp)
  replace hbk := Lib.hid hbk
  clear hb1 kNew q0
  go_wp2_with fail
  refine (lines_c _ _).mono ?_; rintro e w' ⟨rfl, rfl⟩
  go_wp2_with fail
  obtain ⟨kb, hkb⟩ : ∃ kb, kb = w1.heap.size := ⟨_, rfl⟩
  have hsB : ((w1.alloc (.cells #[.pointer (some ⟨p, 0, none⟩)] 65)).alloc (.cells #[.string (bS TX)] 9)).cell? ⟨w1.heap.size + 1, 0, none⟩ = some (.string (bS TX)) := by simp
  have hsF : ((w1.alloc (.cells #[.pointer (some ⟨p, 0, none⟩)] 65)).alloc (.cells #[.string (bS TX)] 9)).frozen? ⟨w1.heap.size + 1, 0, none⟩ = false := by simp
  have hB0 : Below w1.heap.size w1 ((w1.alloc (.cells #[.pointer (some ⟨p, 0, none⟩)] 65)).alloc (.cells #[.string (bS TX)] 9)) := balloc (below_alloc w1 _) _
  obtain ⟨vc, vg, hv⟩ := hbk.out
  have hI0 : RdI w M0 ds w1.heap.size (w1.heap.size + 1) p q (.slice ac M0.length cc) v1 v2 v3 v4 v5 [] ((w1.alloc (.cells #[.pointer (some ⟨p, 0, none⟩)] 65)).alloc (.cells #[.string (bS TX)] 9)) :=
    ⟨vc, vg, hv.below hB0, fun k hk => by have := (hv.blk k hk).2; omega, by simp, ((bcell hB0).1 _ 0 (by omega)).trans r0, ((bcell hB0).2 _ 0 (by omega)).trans r1, by simp, below_seq hB1.out hB0⟩
  refine (wpIn_wide (n := 5)).1 ?_
  refine wpIn_goes (F := Fence.wide) rfl (by decide) (gf := 79) (lb := #[.pointer (some ⟨w1.heap.size + 1, 0, none⟩)]) rfl trivial (enters_of Tryz.func79 (by kernel_rfl) rfl)
    (lines_goes (w1.heap.size + 1) TX (by omega) _ (by simp) hsB hsF) (fun A B C h k => Eq.trans k h) (fun W l o o' hl _ _ _ => World.putObj_heap_other (by simp at hl; omega)) (Below.refl _ _) (fun _ => rfl)
    (RdI w M0 ds w1.heap.size (w1.heap.size + 1) p q (.slice ac M0.length cc) v1 v2 v3 v4 v5) (RdI.own w M0 ds _ _ p q _ v1 v2 v3 v4 v5 _ (by simp; omega)) (RdI.step w M0 ds _ _ p q _ v1 v2 v3 v4 v5 (by omega) (by omega))
    (fun A B k o hst hk ho => by
      obtain ⟨u, rfl | rfl⟩ := hst
      · exact (KeepsOthers.setCell A _ u).same k o hk ho
      · exact (KeepsOthers.setCell A _ u).same k o hk ho)
    hI0 ?act ?assign ?body ?done
  case assign =>
    intro l x W K hK
    replace hK := Lib.hid hK
    gi_wp2
    exact hK.out
  case body =>
    rintro l pre x W ⟨vc, vg, hv, hne, h1, h2, h3, h4, h5⟩ hpre
    clear hsB hsF hB0 hI0
    rw [hlin.out] at hpre
    obtain ⟨k, hk⟩ : ∃ k, pre.length = k := ⟨_, rfl⟩
    obtain ⟨hkl, hxk⟩ : ∃ h : k < ds.length, x = recX ds[k] := by
      obtain ⟨t, ht⟩ := hpre
      have hl := congrArg List.length ht
      simp only [List.length_append, List.length_cons, List.length_nil, recsB, List.length_map] at hl
      refine ⟨by omega, ?_⟩
      have hg : (recsB ds)[k]? = some x := by
        rw [← ht, List.append_assoc, List.getElem?_append_right (by omega)]
        subst hk; simp
      unfold recsB at hg
      rw [List.getElem?_map, List.getElem?_eq_getElem (by omega)] at hg
      simpa using hg.symm
    have hDn := hG.out k hkl
    have hsN := stN_snoc M0 (ds.take k) ds[k]
    have hsG := stG_snoc M0 (ds.take k) ds[k]
    have htk : ds.take (k + 1) = ds.take k ++ [ds[k]] := List.take_succ_eq_append_getElem hkl
    rw [← htk] at hsN hsG
    have hkx : (pre ++ [x]).length = k + 1 := by simp [hk]
    rw [hk] at hv
    subst hxk
    generalize ds[k] = d at *
    have ok := hDn.ok
    have hDl := Lib.hid (ldeal_c d.gl d.M d.R d.s W (hF'.out.below h5) (hA'.out.below h5) ok.g1 ok.gb ok.m ok.o ok.s1)
    obtain ⟨N, hN⟩ : ∃ N, stN M0 (ds.take k) = N := ⟨_, rfl⟩
    obtain ⟨G, hGG⟩ : ∃ G, stG M0 (ds.take k) = G := ⟨_, rfl⟩
    rw [hN, hGG] at hv hDn
    rw [hN] at hsN
    rw [hGG] at hsG
    have hrx : recX d = recD d.gl d.M d.R d.s := rfl
    rw [hrx] at hkx ⊢
    obtain ⟨RX, hRX⟩ : ∃ RX, bS (recD d.gl d.M d.R d.s) = RX := ⟨_, rfl⟩
    obtain ⟨rx, hrx2⟩ : ∃ rx, recD d.gl d.M d.R d.s = rx := ⟨_, rfl⟩
    rw [hRX] at hDl ⊢
    rw [hrx2] at hkx ⊢
    replace hv := Lib.hid hv
    replace hDn := Lib.hid hDn
    replace ok := Lib.hid ok
    replace hsN := Lib.hid hsN
    replace hsG := Lib.hid hsG
    replace hkx := Lib.hid hkx
    replace h5 := Lib.hid h5
    replace hk := Lib.hid hk
    clear hN hGG hrx hRX hrx2 htk hpre
    have hn1 : 1 ≤ 5 - 1 - 1 := by decide
    gi_wp2_with (refine ⟨trivial, ?_⟩; gi_at_call 109; refine (CallsIn.inRound l (callsIn_wide.2 hDl.out)).mono ?_; rintro e w2 ⟨u0, u1, rfl, ho0, ho1, hb2⟩; obtain ⟨a0, c0, rfl⟩ := own_slB ho0; obtain ⟨a1, c1, rfl⟩ := own_slB ho1; have g1 := ((bcell hb2).1 _ 0 (show w1.heap.size < W.heap.size by omega)).trans h1; have hz2 := hb2.size; have g2 : w1.heap.size < w2.heap.size := (by omega); replace ho0 := Lib.hid ho0; replace ho1 := Lib.hid ho1; replace hb2 := Lib.hid hb2)
    clear hDl
    have hB3 := Lib.hid (balloc hb2.out (.cells #[.slice a0 d.gl.length c0, .slice a1 d.M.length c1, .int .i64 d.R.x, .int .i64 d.R.y, .bool d.R.far, .int .i64 d.s] 46))
    have hv3 := Lib.hid (hv.out.below hB3.out)
    have hLi : Lies (w2.alloc (.cells #[.slice a0 d.gl.length c0, .slice a1 d.M.length c1, .int .i64 d.R.x, .int .i64 d.R.y, .bool d.R.far, .int .i64 d.s] 46)) p vc vg a0 a1 d.G (d.M.map qS) := by
      refine ⟨fun h => ?_, fun h => ?_⟩
      · obtain ⟨b, o, e, hs, hb⟩ := own_lies ho0.out (by rw [List.length_map]) (by unfold Rec.G at h; exact h)
        exact ⟨b, o, e, hs.below (below_alloc w2 _), fun hi => by have := (hv.out.blk b hi).2; omega⟩
      · obtain ⟨b, o, e, hs, hb⟩ := own_lieS ho1.out (by rw [List.length_map]) h
        exact ⟨b, o, e, hs.below (below_alloc w2 _), fun hi => by have := (hv.out.blk b hi).2; omega⟩
    have hDo := Lib.hid (hDn.out.run (w.heap.size + 1) p vc vg a0 a1 c0 c1 _ ((hF'.out.below h5.out).below hB3.out) hv3.out (by rw [World.size_alloc]; omega) (own_cap ho0.out).1 (own_cap ho0.out).2 hLi)
    clear hLi
    gi_wp2_with (refine ⟨trivial, ?_⟩; gi_at_call 38; refine (CallsIn.inRound l (callsIn_wide.2 hDo.out)).mono ?_; rintro e w4 ⟨rfl, vc', vg', hv4, hin4, hbt4⟩)
    generalize (w2.alloc (.cells #[.slice a0 d.gl.length c0, .slice a1 d.M.length c1, .int .i64 d.R.x, .int .i64 d.R.y, .bool d.R.far, .int .i64 d.s] 46)) = w3 at *
    have hz3 := hB3.out.size
    have hno : ∀ j, j < W.heap.size → ¬ inB p vc vg j → w4.heap[j]? = W.heap[j]? := fun j hj hn => (hbt4.block j (by omega) hn).trans (hB3.out.block j hj)
    have hn0 : ¬ inB p vc vg w1.heap.size := fun h => (hne _ h).1 rfl
    have hn1' : ¬ inB p vc vg (w1.heap.size + 1) := fun h => (hne _ h).2 rfl
    have hnr : ¬ inB p vc vg w.heap.size := fun h => by have := (hv.out.blk _ h).1; omega
    refine ⟨⟨Nat.le_trans hz3 hbt4.size, fun j o _ hj ho => ?_⟩, hno _ h4 hn1', vc', vg', ?_, fun j hj => ?_, ?_, ?_, ?_, ?_, ?_⟩
    · have hjl := (Array.getElem?_eq_some_iff.1 hj).1
      refine (hno j hjl (fun hin => ?_)).trans hj
      obtain ⟨o', h6, h7⟩ := hv.out.cells j hin
      rw [hj] at h6; cases h6; rw [ho] at h7; cases h7
    · rw [hkx.out, hsN.out, hsG.out]; exact hv4
    · rcases hin4 j hj with h | h
      · exact hne j h
      · omega
    · exact (World.cell?_of_block (a := ⟨w1.heap.size, 0, none⟩) (hno w1.heap.size (by omega) hn0)).trans h1
    · exact (World.cell?_of_block (a := ⟨w.heap.size, 0, none⟩) (hno w.heap.size (by have := h5.out.size; omega) hnr)).trans h2
    · exact (World.frozen?_of_block (a := ⟨w.heap.size, 0, none⟩) (hno w.heap.size (by have := h5.out.size; omega) hnr)).trans h3
    · have := hbt4.size; omega
    · exact (below_seq h5.out hB3.out).trans (hbt4.below (B := w.heap.size) (by have := h5.out.size; omega) (fun j hj => by have := (hv.out.blk j hj).1; omega))
  case done =>
    rintro D W hD ⟨vc, vg, hv, hne, h1, h2, h3, h4, h5⟩ hK
    clear hsB hsF hB0 hI0
    have e1 : ds.take (linesL TX).length = ds := by rw [hlin.out]; unfold recsB; rw [List.length_map, List.take_length]
    rw [e1] at hv
    have hQW := hQ'.out.below h5
    have hzw := h5.size
    have hDl : w1.heap.size < D := by simp at hD; omega
    have hnq : ¬ inB p vc vg q := fun h => by have := (hv.blk _ h).1; omega
    have hnr : ¬ inB p vc vg w.heap.size := fun h => by have := (hv.blk _ h).1; omega
    have hQF := (hQW.set1 (.pointer (some ⟨p, 0, none⟩))).keep (w' := (W.setCell ⟨q, 1, none⟩ (.pointer (some ⟨p, 0, none⟩))).setCell ⟨w.heap.size, 0, none⟩ .nilIface) (by simp) (heap_setCell_other _ ⟨w.heap.size, 0, none⟩ q _ (by show q ≠ w.heap.size; omega))
    have hbs : ∀ j, j ≠ q → j ≠ w.heap.size → ((W.setCell ⟨q, 1, none⟩ (.pointer (some ⟨p, 0, none⟩))).setCell ⟨w.heap.size, 0, none⟩ .nilIface).heap[j]? = W.heap[j]? := fun j h6 h7 => by
      rw [heap_setCell_other _ ⟨w.heap.size, 0, none⟩ j _ h7, heap_setCell_other _ ⟨q, 1, none⟩ j _ h6]
    have hvF := (hv.keep (w' := (W.setCell ⟨q, 1, none⟩ (.pointer (some ⟨p, 0, none⟩))).setCell ⟨w.heap.size, 0, none⟩ .nilIface) (by simp) (fun j hj => hbs j (fun e => hnq (e ▸ hj)) (fun e => hnr (e ▸ hj)))).base (B := w.heap.size) (by omega)
    have hbF : But (fun k => k = q) w ((W.setCell ⟨q, 1, none⟩ (.pointer (some ⟨p, 0, none⟩))).setCell ⟨w.heap.size, 0, none⟩ .nilIface) :=
      ((But.of_below h5).trans (But.setCell (S := fun k => k = q) (p := ⟨q, 1, none⟩) rfl _)).after ((Below.refl w.heap.size _).setCell (p := ⟨w.heap.size, 0, none⟩) (Nat.le_refl _) _)
    have hKF : ((W.setCell ⟨q, 1, none⟩ (.pointer (some ⟨p, 0, none⟩))).setCell ⟨w.heap.size, 0, none⟩ .nilIface).heap[D]? = some (.deferred (some [])) := (hbs D (by omega) (by omega)).trans hK
    have hrF : ((W.setCell ⟨q, 1, none⟩ (.pointer (some ⟨p, 0, none⟩))).setCell ⟨w.heap.size, 0, none⟩ .nilIface).cell? ⟨w.heap.size, 0, none⟩ = some .nilIface := World.cell?_setCell_same _ _ _ (by rw [World.cell?_setCell_other (h := by simp <;> omega)]; exact h2)
    have f1 := hQW.f 1
    have k1 := hQW.c1
    have kl := hQW.lt
    have rl : w.heap.size < W.heap.size := by omega
    replace hQF := Lib.hid hQF
    replace hvF := Lib.hid hvF
    replace hbF := Lib.hid hbF
    replace hKF := Lib.hid hKF
    replace hrF := Lib.hid hrF
    clear hK hv hQW h5 e1 hbs
    dsimp only
    go_wp2
    rw [← hQq.out]
    obtain ⟨X, hX⟩ : ∃ X, X = (W.setCell ⟨q, 1, none⟩ (.pointer (some ⟨p, 0, none⟩))).setCell ⟨w.heap.size, 0, none⟩ .nilIface := ⟨_, rfl⟩
    rw [← hX] at hQF hvF hbF hKF hrF ⊢
    have hrP : (X.putObj D (.deferred none)).cell? ⟨w.heap.size, 0, none⟩ = some .nilIface := (World.cell?_of_block (a := ⟨w.heap.size, 0, none⟩) (World.putObj_heap_other (by show w.heap.size ≠ D; omega))).trans hrF.out
    refine ⟨by simp, .inl ⟨_, _, rfl, run_takeDeferred hKF.out, ?_⟩⟩
    refine ⟨.nilIface, by simp [results, Tryz.f59, go_sem, hrP], rfl, p, vc, vg, ?_, ?_, ?_⟩
    · exact hQF.out.keep (by simp [World.putObj]) (World.putObj_heap_other (by omega))
    · exact hvF.out.turn (grownBy_putObj' X D (.deferred none)) (fun r e => by cases e; exact ⟨_, hKF.out, rfl⟩)
    · exact hbF.out.after (belowK_b (w := w) (Nat.le_refl _) X D _ _ (by omega) hKF.out rfl rfl)
end Go.Proofs.YtahgaccdeakmcaaGreatDoor
namespace Go.Proofs.YtahgaccdeakmcaaGreatDoor
open Go.RowKit
set_option maxRecDepth 100000
set_option linter.unusedVariables false
set_option linter.unusedSimpArgs false
attribute [local go_sem ↓] Go.wp_at_zero Go.wp_at_succ
/-- The blocks of a log. -/
structure LgH where
  ac : Option Addr
  cc : Nat
  p : Nat
  vc : Value
  vg : Value
/-- What a log holds: its deals, half a record behind them, how much is safe, the steps left, has it stopped. -/
structure LgS where
  ds : List Rec
  hf : List UInt8
  sf : Int
  lf : Int
  st : Bool
def LgS.bytes (s : LgS) : List UInt8 := (recsB s.ds).flatten ++ s.hf
def inL (M0 : List Int) (q : Nat) (h : LgH) (k : Nat) : Prop := k = q ∨ (Value.slice h.ac M0.length h.cc).ownBlock = some k ∨ inB h.p h.vc h.vg k
structure LgV (w : World) (B q : Nat) (M0 : List Int) (h : LgH) (s : LgS) : Prop where
  Q : QAt w q (.slice h.ac M0.length h.cc) (.pointer (some ⟨h.p, 0, none⟩)) (.string (bS s.bytes)) (.int .i64 s.sf) (.int .i64 s.lf) (.bool s.st)
  co : w.ownsRow B 28 3 (.slice h.ac M0.length h.cc) M0.length (spCells (M0.map qS))
  bk : BkV w B h.p h.vc h.vg (stN M0 s.ds) (stG M0 s.ds)
  qB : B ≤ q
  nq : ¬ inB h.p h.vc h.vg q
  nc : ∀ k, (Value.slice h.ac M0.length h.cc).ownBlock = some k → k ≠ q ∧ ¬ inB h.p h.vc h.vg k
/-- What holds of it. -/
structure LgP (M0 : List Int) (s : LgS) : Prop where
  all : DoneAll M0 s.ds
  m : M0.length ≤ 12
  n : s.ds.length ≤ 500
  nl : ∀ b ∈ s.hf, b ≠ 10
  hl : s.hf.length ≤ 20000
  h0 : s.st = false → s.hf = []
  s0 : 0 ≤ s.sf
  s1 : s.sf ≤ s.bytes.length
  l0 : -1 ≤ s.lf
  l1 : s.lf ≤ 9223372036854775807
theorem LgP.len {M0 : List Int} {s : LgS} (h : LgP M0 s) : s.bytes.length ≤ 20000 * 501 := by
  have h1 := recsB_len s.ds h.all.all
  have h2 := h.hl
  have h3 := h.n
  unfold LgS.bytes
  rw [List.length_append]
  omega
theorem LgV.blk {w : World} {B q : Nat} {M0 : List Int} {h : LgH} {s : LgS} (v : LgV w B q M0 h s) (k : Nat) (hk : inL M0 q h k) : B ≤ k ∧ k < w.heap.size := by
  rcases hk with rfl | hk | hk
  · exact ⟨v.qB, v.Q.lt⟩
  · exact v.co.lt k hk
  · exact v.bk.blk k hk
theorem LgV.keep {w w' : World} {B q : Nat} {M0 : List Int} {h : LgH} {s : LgS} (v : LgV w B q M0 h s) (hs : w.heap.size ≤ w'.heap.size) (hk : ∀ k, inL M0 q h k → w'.heap[k]? = w.heap[k]?) : LgV w' B q M0 h s :=
  ⟨v.Q.keep hs (hk q (.inl rfl)), own_keep v.co (fun k e => hk k (.inr (.inl e))), v.bk.keep hs (fun k e => hk k (.inr (.inr e))), v.qB, v.nq, v.nc⟩
theorem LgV.below {w w' : World} {B q : Nat} {M0 : List Int} {h : LgH} {s : LgS} (v : LgV w B q M0 h s) (hb : Below w.heap.size w w') : LgV w' B q M0 h s := v.keep hb.size (fun k hk => hb.block k (v.blk k hk).2)
theorem LgV.but {w w' : World} {B q : Nat} {M0 : List Int} {h : LgH} {s : LgS} {S : Nat → Prop} (v : LgV w B q M0 h s) (hb : But S w w') (hs : ∀ k, inL M0 q h k → ¬ S k) : LgV w' B q M0 h s := v.keep hb.size (fun k hk => hb.block k (v.blk k hk).2 (hs k hk))
/-- What a step of a log leaves. -/
def LgDid (w w' : World) (B q : Nat) (M0 : List Int) (h : LgH) (s' : LgS) : Prop :=
  ∃ h', LgV w' B q M0 h' s' ∧ (∀ k, inL M0 q h' k → inL M0 q h k ∨ w.heap.size ≤ k) ∧ But (inL M0 q h) w w'
theorem LgDid.same {w w' : World} {B q : Nat} {M0 : List Int} {h : LgH} {s : LgS} (v : LgV w B q M0 h s) (hb : Below w.heap.size w w') : LgDid w w' B q M0 h s := ⟨h, v.below hb, fun k hk => .inl hk, But.of_below hb⟩
/-- A step is one less, if any is left. -/
def dec1 (n : Int) : Int := max (-1) (n - 1)
theorem dec1_bd {n : Int} (h0 : -1 ≤ n) (h1 : n ≤ 9223372036854775807) : -1 ≤ dec1 n ∧ dec1 n ≤ 9223372036854775807 := by unfold dec1; omega
set_option maxHeartbeats 1000000 in
theorem lstep_c (q : Nat) (v0 v1 v2 v3 v5 : Value) (n : Int) (w : World) (hQ : QAt w q v0 v1 v2 v3 (.int .i64 n) v5) (h0 : -1 ≤ n) (h1 : n ≤ 9223372036854775807) :
    Calls Tryz.prog 58 #[.pointer (some ⟨q, 0, none⟩)] w fun e w' => e = .returned (.bool (decide (n = 0))) ∧ QAt w' q v0 v1 v2 v3 (.int .i64 (dec1 n)) (.bool (decide (n = 0))) ∧ But (fun k => k = q) w w' := by
  have hF := (hQ.set5 (.bool (decide (n = 0)))).set4 (.int .i64 (dec1 n))
  have hB := (But.setCell (S := fun k => k = q) (a := w) (p := ⟨q, 5, none⟩) rfl (.bool (decide (n = 0)))).trans (But.setCell (S := fun k => k = q) (p := ⟨q, 4, none⟩) rfl (.int .i64 (dec1 n)))
  obtain ⟨b, hb⟩ : ∃ b, decide (n = 0) = b := ⟨_, rfl⟩
  have hb2 : (n == 0) = b := by rw [← hb]; rfl
  obtain ⟨m, hm⟩ : ∃ m, dec1 n = m := ⟨_, rfl⟩
  have c4 := hQ.c4
  have c5 := hQ.c5
  have f4 := hQ.f 4
  have f5 := hQ.f 5
  have ql := hQ.lt
  rw [hb, hm] at hF hB
  rw [hb, hm]
  replace hF := Lib.hid hF
  replace hB := Lib.hid hB
  clear hQ hb
  go_enter Tryz.func58, Tryz.ntmps58
  go_wp2
  unfold dec1 at hm
  rw [hm]
  go_ret
  exact ⟨rfl, hF.out, hB.out⟩
theorem LgV.bytes_c {w : World} {B q : Nat} {M0 : List Int} {h : LgH} {s : LgS} (v : LgV w B q M0 h s) : Calls Tryz.prog 22 #[.pointer (some ⟨q, 0, none⟩)] w fun e w' => e = .returned (.int .i64 (s.bytes.length : Int)) ∧ w' = w := by
  have c2 := v.Q.c2
  have ql := v.Q.lt
  have hz := bS_size s.bytes
  clear v
  generalize bS s.bytes = S at *
  replace hz := Lib.hid hz
  go_enter Tryz.func22, Tryz.ntmps22
  go_wp2
  go_ret
  exact ⟨by rw [← hz.out]; rfl, rfl⟩
theorem LgV.safe_c {w : World} {B q : Nat} {M0 : List Int} {h : LgH} {s : LgS} (v : LgV w B q M0 h s) : Calls Tryz.prog 23 #[.pointer (some ⟨q, 0, none⟩)] w fun e w' => e = .returned (.int .i64 s.sf) ∧ w' = w := by
  have c3 := v.Q.c3
  have ql := v.Q.lt
  clear v
  go_enter Tryz.func23, Tryz.ntmps23
  go_wp2
  go_ret
  exact ⟨rfl, rfl⟩
/-- A log with other numbers in its block. -/
theorem LgV.put {w w' : World} {B q : Nat} {M0 : List Int} {h : LgH} {s : LgS} (v : LgV w B q M0 h s) (sf lf : Int) (st : Bool) (hQ : QAt w' q (.slice h.ac M0.length h.cc) (.pointer (some ⟨h.p, 0, none⟩)) (.string (bS s.bytes)) (.int .i64 sf) (.int .i64 lf) (.bool st)) (hb : But (fun k => k = q) w w') :
    LgDid w w' B q M0 h { s with sf := sf, lf := lf, st := st } := by
  refine ⟨h, ⟨hQ, own_but v.co hb (fun k e => (v.nc k e).1), v.bk.but hb (fun k hk e => v.nq (e ▸ hk)), v.qB, v.nq, v.nc⟩, fun k hk => .inl hk, ⟨hb.os, hb.tape, hb.output, hb.size, fun k hk hs => hb.block k hk (fun e => hs (.inl e))⟩⟩
theorem LgV.fail_c {w : World} {B q : Nat} {M0 : List Int} {h : LgH} {s : LgS} (v : LgV w B q M0 h s) (n : Int) (hn : n ≤ 9223372036854775807) (hn0 : -9223372036854775808 ≤ n) : Calls Tryz.prog 17 #[.pointer (some ⟨q, 0, none⟩), .int .i64 n] w fun e w' => (∃ u, e = .returned u) ∧ LgDid w w' B q M0 h { s with lf := max (-1) n } := by
  have c4 := v.Q.c4
  have f4 := v.Q.f 4
  have ql := v.Q.lt
  have hF := v.put s.sf (max (-1) n) s.st (v.Q.set4 (.int .i64 (max (-1) n))) (But.setCell (S := fun k => k = q) (p := ⟨q, 4, none⟩) rfl _)
  replace hF := Lib.hid hF
  clear v
  go_enter Tryz.func17, Tryz.ntmps17
  go_wp2
  go_end0
  exact ⟨⟨_, rfl⟩, hF.out⟩
set_option maxHeartbeats 1000000 in
theorem LgV.sync_st {w : World} {B q : Nat} {M0 : List Int} {h : LgH} {s : LgS} (v : LgV w B q M0 h s) (hs : s.st = true) : Calls Tryz.prog 20 #[.pointer (some ⟨q, 0, none⟩)] w fun e w' => e = .returned (errV 6) ∧ LgDid w w' B q M0 h s := by
  have c5 := v.Q.c5
  have ql := v.Q.lt
  rw [hs] at c5
  have hF := LgDid.same v (Below.refl _ _)
  replace hF := Lib.hid hF
  clear v hs
  go_enter Tryz.func20, Tryz.ntmps20
  go_wp2
  go_ret
  exact ⟨rfl, hF.out⟩
set_option maxHeartbeats 1000000 in
theorem LgV.sync_0 {w : World} {B q : Nat} {M0 : List Int} {h : LgH} {s : LgS} (v : LgV w B q M0 h s) (hP : LgP M0 s) (hs : s.st = false) (h0 : s.lf = 0) : Calls Tryz.prog 20 #[.pointer (some ⟨q, 0, none⟩)] w fun e w' =>
    e = .returned (errV 6) ∧ LgDid w w' B q M0 h { s with lf := dec1 s.lf, st := true } := by
  have c5 := v.Q.c5
  have ql := v.Q.lt
  rw [hs] at c5
  have hS := lstep_c q _ _ _ _ _ s.lf w v.Q hP.l0 hP.l1
  rw [decide_eq_true h0] at hS
  replace hS := Lib.hid hS
  have v' := Lib.hid v
  clear v hs hP h0
  go_enter Tryz.func20, Tryz.ntmps20
  go_wp2_with fail
  refine hS.out.mono ?_; rintro e w1 ⟨rfl, hQ, hb⟩
  have hF := Lib.hid (v'.out.put s.sf (dec1 s.lf) true hQ hb)
  clear c5 ql hb hQ
  go_wp2
  go_ret
  exact ⟨rfl, hF.out⟩
set_option maxHeartbeats 1000000 in
theorem LgV.sync_1 {w : World} {B q : Nat} {M0 : List Int} {h : LgH} {s : LgS} (v : LgV w B q M0 h s) (hP : LgP M0 s) (hs : s.st = false) (h0 : s.lf ≠ 0) : Calls Tryz.prog 20 #[.pointer (some ⟨q, 0, none⟩)] w fun e w' =>
    e = .returned .nilIface ∧ LgDid w w' B q M0 h { s with sf := (s.bytes.length : Int), lf := dec1 s.lf, st := false } := by
  have c5 := v.Q.c5
  have ql := v.Q.lt
  rw [hs] at c5
  have hS := lstep_c q _ _ _ _ _ s.lf w v.Q hP.l0 hP.l1
  rw [decide_eq_false h0] at hS
  replace hS := Lib.hid hS
  have v' := Lib.hid v
  clear v hs hP h0
  go_enter Tryz.func20, Tryz.ntmps20
  go_wp2_with fail
  refine hS.out.mono ?_; rintro e w1 ⟨rfl, hQ, hb⟩
  have hz := bS_size s.bytes
  have c2 := hQ.c2
  have c3 := hQ.c3
  have f3 := hQ.f 3
  have ql1 := hQ.lt
  have hF := Lib.hid (v'.out.put (s.bytes.length : Int) (dec1 s.lf) false (hQ.set3 (.int .i64 (s.bytes.length : Int))) (hb.trans (But.setCell (S := fun k => k = q) (p := ⟨q, 3, none⟩) rfl _)))
  rw [← hz] at hF
  clear c5 ql hb hQ hz
  go_wp2
  go_ret
  exact ⟨rfl, by rw [bS_size] at hF; exact hF.out⟩
theorem LgV.live_c {w : World} {B q : Nat} {M0 : List Int} {h : LgH} {s : LgS} (v : LgV w B q M0 h s) (hn : (stN M0 s.ds).length ≤ 1000000) : Calls Tryz.prog 30 #[.pointer (some ⟨q, 0, none⟩)] w fun e w' => ∃ v', e = .returned v' ∧ w'.ownsRow w.heap.size 3 1 v' (liveN (stG M0 s.ds) (stN M0 s.ds).length).length ((liveN (stG M0 s.ds) (stN M0 s.ds).length).map (Value.int .i64)) ∧ Below w.heap.size w w' := by
  have c1 := v.Q.c1
  have ql := v.Q.lt
  have hL := Lib.hid (blive_c (stN M0 s.ds) (stG M0 s.ds) B h.p w ⟨_, _, v.bk⟩ hn)
  clear v
  go_enter Tryz.func30, Tryz.ntmps30
  go_wp2_with fail
  refine hL.out.mono ?_; rintro e w1 ⟨v1, rfl, h1, h2⟩
  go_wp2
  go_ret
  exact ⟨_, rfl, h1, h2⟩
set_option maxHeartbeats 1000000 in
theorem LgV.total_c {w : World} {B q : Nat} {M0 : List Int} {h : LgH} {s : LgS} (v : LgV w B q M0 h s) (hF : FarAt w) (hn : (stN M0 s.ds).length ≤ 1000000) (T : Sp) (hT : Hid (qS (totN (stN M0 s.ds) (stG M0 s.ds) (stN M0 s.ds).length) = T)) : Calls Tryz.prog 24 #[.pointer (some ⟨q, 0, none⟩)] w fun e w' => e = .returned (spV T) ∧ Below w.heap.size w w' := by
  have c1 := v.Q.c1
  have ql := v.Q.lt
  have hb0 := below_alloc w (.cells #[.int .i64 0, .int .i64 0, .bool false] 28)
  have hL := btotal_c (stN M0 s.ds) (stG M0 s.ds) B h.p _ (hF.below hb0) ⟨_, _, v.bk.below hb0⟩ hn
  rw [hT.out] at hL
  replace hL := Lib.hid hL
  have hz := (SpAt.fresh w 0 0 false 28)
  clear v hF hT
  go_enter Tryz.func24, Tryz.ntmps24
  go_wp2_with fail
  refine hL.out.mono ?_; rintro e w1 ⟨rfl, hb1⟩
  obtain ⟨c0, c1', c2, f0, f1, f2, cl⟩ := hz.below hb1
  have hB := below_seq hb0 hb1
  clear hb0 hb1 hz hL c1
  go_wp2
  have kk := set3_cell (w := w1) (x := .int .i64 T.x) (y := .int .i64 T.y) (z := .bool T.far) c0 c1' c2
  refine bodyPost_ret (v := spV T) (by simp [results, Tryz.results24, go_sem, kk.1, kk.2.1, kk.2.2]) rfl ⟨rfl, set3_below hB (Nat.le_refl _)⟩
end Go.Proofs.YtahgaccdeakmcaaGreatDoor
namespace Go.Proofs.YtahgaccdeakmcaaGreatDoor
open Go.RowKit
set_option maxRecDepth 100000
set_option linter.unusedVariables false
set_option linter.unusedSimpArgs false
attribute [local go_sem ↓] Go.wp_at_zero Go.wp_at_succ
set_option maxHeartbeats 4000000 in
theorem lnew_n (n : Nat) (E : Value) (a : Option Addr) (c : Nat) (w : World) (hE : ∃ k, E = .iface 94 (.int .i64 k)) (hN : Calls Tryz.prog 35 #[.slice a n c] w fun e w' => e = .returned (.tuple #[.pointer none, E]) ∧ Below w.heap.size w w') :
    Calls Tryz.prog 16 #[.slice a n c] w fun e w' => e = .returned (.tuple #[.pointer none, E]) ∧ Below w.heap.size w w' := by
  obtain ⟨k, rfl⟩ := hE
  replace hN := Lib.hid hN
  go_enter Tryz.func16, Tryz.ntmps16
  go_wp2_with fail
  refine hN.out.mono ?_; rintro e w1 ⟨rfl, hb1⟩
  go_wp2
  go_ret2
  exact ⟨rfl, hb1⟩
def LgS.new : LgS := ⟨[], [], 0, -1, false⟩
theorem LgP.new {M0 : List Int} (h : M0.length ≤ 12) : LgP M0 LgS.new :=
  ⟨DoneAll.nil M0, h, Nat.zero_le _, fun b hb => absurd hb List.not_mem_nil, Nat.zero_le _, fun _ => rfl, Int.le_refl _, Int.le_refl _, Int.le_refl _, by show (-1 : Int) ≤ _; decide⟩
set_option maxHeartbeats 4000000 in
theorem lnew_y (M0 : List Int) (a : Option Addr) (c : Nat) (w : World) (hn : M0.length ≤ 12) (hF : FarAt w) (hL : 0 < (M0.map qS).length → ∃ b o, a = some ⟨b, o, none⟩ ∧ SpotsAt w b o (M0.map qS)) :
    Calls Tryz.prog 16 #[.slice a M0.length c] w fun e w' => ∃ q h, e = .returned (.tuple #[.pointer (some ⟨q, 0, none⟩), .nilIface]) ∧ LgV w' w.heap.size q M0 h LgS.new ∧ Below w.heap.size w w' := by
  have hN := Lib.hid (bnew_y M0 a c w hn hF hL)
  have hC := Lib.hid (fun (w1 : World) (hb : Below w.heap.size w w1) => cloneS_c (M0.map qS) a c w1 (by rw [List.length_map]; omega) (fun h => by obtain ⟨b, o, e, hs⟩ := hL h; exact ⟨b, o, e, hs.below hb⟩))
  rw [List.length_map] at hC
  clear hL hF
  go_enter Tryz.func16, Tryz.ntmps16
  go_wp2_with fail
  refine hN.out.mono ?_; rintro e w1 ⟨p, rfl, hbk, hb1⟩
  replace hbk := Lib.hid hbk
  have hC1 := Lib.hid (hC.out _ hb1)
  replace hb1 := Lib.hid hb1
  clear hC hN
  go_wp2_with fail
  refine hC1.out.mono ?_; rintro e w2 ⟨v', rfl, hco, hb2⟩
  obtain ⟨ac, cc, rfl⟩ := own_slB hco
  have hB2 := Lib.hid (below_seq hb1.out hb2)
  obtain ⟨vc, vg, hbk1⟩ := hbk.out
  have hbk2 := hbk1.below hb2
  have hz1 := hb1.out.size
  have hz2 := hb2.size
  have hbkb := fun k hk => (hbk1.blk k hk).2
  have hV : LgV (w2.alloc (.cells #[.slice ac M0.length cc, .pointer (some ⟨p, 0, none⟩), .string ⟨#[]⟩, .int .i64 0, .int .i64 (-1), .bool false] 98)) w.heap.size w2.heap.size M0 ⟨ac, cc, p, vc, vg⟩ LgS.new := by
    refine ⟨⟨by go_simp, by go_simp, by go_simp; rfl, by go_simp; rfl, by go_simp; rfl, by go_simp; rfl, fun o => by simp, by simp⟩, own_base (hco.alloc _) (by omega), hbk2.below (below_alloc w2 _), by omega, fun h => ?_, fun k hk => ⟨?_, fun h => ?_⟩⟩
    · have := hbkb _ h; omega
    · have := (hco.lt k hk).2; omega
    · have := hbkb _ h; have := (hco.lt k hk).1; omega
  replace hV := Lib.hid hV
  clear hbkb hbk1 hbk2 hco hb2 hbk hC1
  go_wp2
  go_ret2
  exact ⟨_, _, rfl, hV.out, balloc hB2.out _⟩
/-- A log with another record. -/
theorem bS_half (R : List UInt8) (h : R.length ≤ 20000) : (bS R).extract 0 (R.length / 2) = bS (R.take (R.length / 2)) := bS_extract _ _ _ _ (by simp)
theorem DlAt.fresh2 (w : World) (g n : Value) (r : Sp) (s : Int) (t : TypeId) : DlAt (w.alloc (.cells #[g, n, .int .i64 r.x, .int .i64 r.y, .bool r.far, .int .i64 s] t)) w.heap.size g n r s := ⟨by simp, by simp, by simp, by simp, by simp, by simp, by simp, by simp, by simp, by simp, by simp, by simp, by simp⟩
theorem But.drew1 {S : Nat → Prop} {a b : World} (h : But S a.drew b) : But S a b := ⟨h.os, h.tape, h.output, h.size, h.block⟩
/-- The book has turned, and nothing else. -/
theorem LgV.book {w w' : World} {B q : Nat} {M0 : List Int} {h : LgH} {s : LgS} {vc' vg' : Value} (v : LgV w B q M0 h s) (hv : BkV w' B h.p vc' vg' (stN M0 s.ds) (stG M0 s.ds)) (hin : ∀ k, inB h.p vc' vg' k → inB h.p h.vc h.vg k ∨ w.heap.size ≤ k) (hb : But (inB h.p h.vc h.vg) w w') : LgDid w w' B q M0 h s := by
  refine ⟨{ h with vc := vc', vg := vg' }, ⟨v.Q.keep hb.size (hb.block q v.Q.lt v.nq), own_but v.co hb (fun k e => (v.nc k e).2), hv, v.qB, fun hq => ?_, fun k hk => ⟨(v.nc k hk).1, fun hq => ?_⟩⟩, fun k hk => ?_, ⟨hb.os, hb.tape, hb.output, hb.size, fun k hk hs => hb.block k hk (fun e => hs (.inr (.inr e)))⟩⟩
  · rcases hin q hq with h1 | h1
    · exact v.nq h1
    · have := v.Q.lt; omega
  · rcases hin k hq with h1 | h1
    · exact (v.nc k hk).2 h1
    · have := (v.co.lt k hk).2; omega
  · rcases hk with h1 | h1 | h1
    · exact .inl (.inl h1)
    · exact .inl (.inr (.inl h1))
    · exact (hin k h1).imp (fun h2 => .inr (.inr h2)) id
/-- Refused: it has stopped. -/
theorem LgV.do_st {w : World} {B q : Nat} {M0 : List Int} {h : LgH} {s : LgS} (v : LgV w B q M0 h s) (hs : s.st = true) (a0 a1 : Option Addr) (n m c0 c1 : Nat) (RS : Sp) (S : Int) :
    Calls Tryz.prog 18 #[.pointer (some ⟨q, 0, none⟩), dlV (.slice a0 n c0) (.slice a1 m c1) RS S] w fun e w' => e = .returned (errV 6) ∧ Below w.heap.size w w' := by
  have c5 := v.Q.c5
  have ql := v.Q.lt
  rw [hs] at c5
  clear v hs
  go_enter Tryz.func18, Tryz.ntmps18
  go_wp2
  go_ret
  exact ⟨rfl, below_alloc _ _⟩
set_option maxHeartbeats 4000000 in
/-- Refused by the book. -/
theorem LgV.do_no {w : World} {B q : Nat} {M0 : List Int} {h : LgH} {s : LgS} (v : LgV w B q M0 h s) (hs : s.st = false) (a0 a1 : Option Addr) (n m c0 c1 : Nat) (RS : Sp) (S E : Int) (hE : E ≠ 0)
    (hD : ∀ w1, Below w.heap.size w w1 → Calls Tryz.prog 38 #[.pointer (some ⟨h.p, 0, none⟩), dlV (.slice a0 n c0) (.slice a1 m c1) RS S] w1 fun e w' => e = .returned (errV E) ∧ Did w1 w' B h.p h.vc h.vg (stN M0 s.ds) (stG M0 s.ds)) :
    Calls Tryz.prog 18 #[.pointer (some ⟨q, 0, none⟩), dlV (.slice a0 n c0) (.slice a1 m c1) RS S] w fun e w' => e = .returned (errV E) ∧ LgDid w w' B q M0 h s := by
  have c5 := v.Q.c5
  have c1' := v.Q.c1
  have ql := v.Q.lt
  have hw0 := v.bk.blk h.p (.inl rfl)
  rw [hs] at c5
  rw [errVB_ne hE] at hD ⊢
  have kD := Lib.hid hD
  have v' := Lib.hid v
  have hb0 := Lib.hid (below_alloc w (.cells #[.slice a0 n c0, .slice a1 m c1, .int .i64 RS.x, .int .i64 RS.y, .bool RS.far, .int .i64 S] 46))
  clear v hs hE hD
  have hdn : ¬ inB h.p h.vc h.vg w.heap.size := fun h1 => by have := (v'.out.bk.blk _ h1).2; omega
  have hDl := Lib.hid (DlAt.fresh2 w (.slice a0 n c0) (.slice a1 m c1) RS S 46)
  go_enter Tryz.func18, Tryz.ntmps18
  go_upto_region 3 with fail
  go_cut [5] from 13 to 18 (fun s5 wx => s5 = .iface 94 (.int .i64 E) ∧ (∃ vc' vg', BkV wx B h.p vc' vg' (stN M0 s.ds) (stG M0 s.ds) ∧ (∀ k, inB h.p vc' vg' k → inB h.p h.vc h.vg k ∨ w.heap.size ≤ k) ∧ But (inB h.p h.vc h.vg) w wx) ∧ DlAt wx w.heap.size (.slice a0 n c0) (.slice a1 m c1) RS S)
  case first =>
    go_region_with (first | (go_at_call 38; refine (kD.out _ (by repeat (with_reducible first | exact Below.refl _ _ | exact hb0.out | refine balloc ?_ _ | refine Below.drew ?_))).mono ?_; rintro e w2 ⟨rfl, vc', vg', hv2, hin2, hbt2⟩) | fail)
    all_goals
      go_wp2_with fail
      go_meet
      exact ⟨rfl, ⟨vc', vg', hv2, fun k hk => (hin2 k hk).imp id (fun h1 => Nat.le_trans hb0.out.size h1), (But.of_below hb0.out).trans (But.drew1 hbt2)⟩, hDl.out.keep hbt2.size (hbt2.block _ (by show w.heap.size < _; simp) hdn)⟩
  case rest =>
  obtain ⟨rfl, ⟨vc', vg', hv2, hin2, hbt2⟩, hDl2⟩ := hcut
  obtain ⟨w2, hw2⟩ : ∃ x, x = wc := ⟨_, rfl⟩
  subst hw2
  clear hDl kD
  have hF := Lib.hid (v'.out.book hv2 hin2 hbt2)
  clear hDl2 hv2 hin2 hbt2
  go_wp2
  go_ret
  exact ⟨rfl, hF.out⟩
/-- The book has turned; a new string; the log's block. -/
theorem LgV.did2 {w w2 w3 w5 : World} {B q : Nat} {M0 : List Int} {h : LgH} {s s' : LgS} {vc' vg' : Value} (v : LgV w B q M0 h s) (hv : BkV w2 B h.p vc' vg' (stN M0 s'.ds) (stG M0 s'.ds)) (hin : ∀ k, inB h.p vc' vg' k → inB h.p h.vc h.vg k ∨ w.heap.size ≤ k) (hb : But (inB h.p h.vc h.vg) w w2) (hb3 : Below w2.heap.size w2 w3) (hb5 : But (fun k => k = q) w3 w5)
    (hQ : QAt w5 q (.slice h.ac M0.length h.cc) (.pointer (some ⟨h.p, 0, none⟩)) (.string (bS s'.bytes)) (.int .i64 s'.sf) (.int .i64 s'.lf) (.bool s'.st)) : LgDid w w5 B q M0 h s' := by
  have nq : ¬ inB h.p vc' vg' q := fun hq => by
    rcases hin q hq with h1 | h1
    · exact v.nq h1
    · have := v.Q.lt; omega
  have nc : ∀ k, (Value.slice h.ac M0.length h.cc).ownBlock = some k → ¬ inB h.p vc' vg' k := fun k hk hq => by
    rcases hin k hq with h1 | h1
    · exact (v.nc k hk).2 h1
    · have := (v.co.lt k hk).2; omega
  have hv3 := hv.below hb3
  have co3 := own_below (own_but v.co hb (fun k e => (v.nc k e).2)) hb3
  have hbT : But (inL M0 q h) w w5 := by
    refine (But.trans (b := w3) ?_ ?_)
    · exact ⟨hb3.os.trans hb.os, hb3.tape.trans hb.tape, hb3.output.trans hb.output, Nat.le_trans hb.size hb3.size, fun k hk hs => (hb3.block k (Nat.lt_of_lt_of_le hk hb.size)).trans (hb.block k hk (fun e => hs (.inr (.inr e))))⟩
    · exact ⟨hb5.os, hb5.tape, hb5.output, hb5.size, fun k hk hs => hb5.block k hk (fun e => hs (.inl e))⟩
  refine ⟨{ h with vc := vc', vg := vg' }, ⟨hQ, own_but co3 hb5 (fun k e => (v.nc k e).1), hv3.but hb5 (fun k hk e => nq (e ▸ hk)), v.qB, nq, fun k hk => ⟨(v.nc k hk).1, nc k hk⟩⟩, fun k hk => ?_, hbT⟩
  rcases hk with h1 | h1 | h1
  · exact .inl (.inl h1)
  · exact .inl (.inr (.inl h1))
  · exact (hin k h1).imp (fun h2 => .inr (.inr h2)) id
/-- Another book in its place. -/
theorem LgV.did3 {w w4 w6 : World} {B q p' : Nat} {M0 : List Int} {h : LgH} {s s' : LgS} {vc2 vg2 : Value} (v : LgV w B q M0 h s) (hb4 : But (inL M0 q h) w w4) (hco : w4.ownsRow B 28 3 (.slice h.ac M0.length h.cc) M0.length (spCells (M0.map qS))) {w5 : World}
    (hv5 : BkV w5 w4.heap.size p' vc2 vg2 (stN M0 s'.ds) (stG M0 s'.ds)) (hb6 : But (fun k => k = q) w4 w6) (hq4 : q < w4.heap.size) (hBw : B ≤ w4.heap.size) (hQ : QAt w6 q (.slice h.ac M0.length h.cc) (.pointer (some ⟨p', 0, none⟩)) (.string (bS s'.bytes)) (.int .i64 s'.sf) (.int .i64 s'.lf) (.bool s'.st)) (h56 : w5.heap.size ≤ w6.heap.size) (hk56 : ∀ k, k ≠ q → w6.heap[k]? = w5.heap[k]?) : LgDid w w6 B q M0 h s' := by
  have hnq : ¬ inB p' vc2 vg2 q := fun e => by have := (hv5.blk _ e).1; omega
  refine ⟨⟨h.ac, h.cc, p', vc2, vg2⟩, ⟨hQ, own_but hco hb6 (fun k e => (v.nc k e).1), (hv5.keep h56 (fun k hk => hk56 k (fun e => hnq (e ▸ hk)))).base hBw, v.qB, hnq, fun k hk => ⟨(v.nc k hk).1, fun e => ?_⟩⟩, fun k hk => ?_, hb4.trans (hb6.mono fun k _ hk => .inl hk)⟩
  · have := (hv5.blk _ e).1; have := (hco.lt k hk).2; omega
  · rcases hk with h1 | h1 | h1
    · exact .inl (.inl h1)
    · exact .inl (.inr (.inl h1))
    · exact .inr (Nat.le_trans hb4.size (hv5.blk _ h1).1)
/-- The listed variables lie as they should, whatever is written from B on. -/
def Glo (B : Nat) (w : World) : Prop := ∀ w1, Below B w w1 → FarAt w1 ∧ AscAt w1 ∧ TenAt w1
theorem Glo.below {B : Nat} {w w' : World} (h : Glo B w) (hb : Below B w w') : Glo B w' := fun w1 h1 => h w1 (hb.trans h1)
theorem Glo.of {B : Nat} {e w : World} (h1 : FarAt e) (h2 : AscAt e) (h3 : TenAt e) (hb : Below e.heap.size e w) (hB : e.heap.size ≤ B) : Glo B w := fun w1 h => by
  have := hb.trans (h.mono hB)
  exact ⟨h1.below this, h2.below this, h3.below this⟩
def LgS.done (s : LgS) (d : Rec) : LgS := ⟨s.ds ++ [d], [], s.sf, dec1 s.lf, false⟩
def LgS.halt (s : LgS) (d : Rec) : LgS := ⟨s.ds, (recX d).take ((recX d).length / 2), s.sf, dec1 s.lf, true⟩
theorem recsB_snoc (ds : List Rec) (d : Rec) : (recsB (ds ++ [d])).flatten = (recsB ds).flatten ++ recX d := by unfold recsB; rw [List.map_append, List.flatten_append]; simp
theorem LgP.bytes0 {M0 : List Int} {s : LgS} (h : LgP M0 s) (hs : s.st = false) : s.bytes = (recsB s.ds).flatten := by unfold LgS.bytes; rw [h.h0 hs, List.append_nil]
set_option maxHeartbeats 8000000 in
theorem LgV.do_y {w : World} {B q : Nat} {M0 : List Int} {h : LgH} {s : LgS} (v : LgV w B q M0 h s) (hP : LgP M0 s) (hB : B ≤ w.heap.size) (hg : Glo B w) (hs : s.st = false) (d : Rec) (hd : Done (stN M0 s.ds) (stG M0 s.ds) d) (a0 a1 : Option Addr) (c0 c1 : Nat)
    (hI : IntSl w (.slice a0 d.gl.length c0) d.G) (hIn : ∀ b o, a0 = some ⟨b, o, none⟩ → ¬ inL M0 q h b) (hS : 0 < d.M.length → ∃ b o, a1 = some ⟨b, o, none⟩ ∧ SpotsAt w b o (d.M.map qS) ∧ ¬ inL M0 q h b)
    (hD : ∀ w1, Below w.heap.size w w1 → Calls Tryz.prog 38 #[.pointer (some ⟨h.p, 0, none⟩), dlV (.slice a0 d.gl.length c0) (.slice a1 d.M.length c1) d.R (d.s : Int)] w1 fun e w' => e = .returned .nilIface ∧ Did w1 w' B h.p h.vc h.vg (stN M0 (s.ds ++ [d])) (stG M0 (s.ds ++ [d]))) (h0 : s.lf ≠ 0) :
    Calls Tryz.prog 18 #[.pointer (some ⟨q, 0, none⟩), dlV (.slice a0 d.gl.length c0) (.slice a1 d.M.length c1) d.R (d.s : Int)] w fun e w' => e = .returned .nilIface ∧ LgDid w w' B q M0 h (s.done d) := by
  have hby := Lib.hid (hP.bytes0 hs)
  have hst0 := Lib.hid hs
  have hlB := hP.len
  have c5 := v.Q.c5
  have c1' := v.Q.c1
  have ql := v.Q.lt
  have hw0 := v.bk.blk h.p (.inl rfl)
  rw [hs] at c5
  have kD := Lib.hid hD
  have v' := Lib.hid v
  have ok := Lib.hid hd.ok
  have hst := lstep_c
  have hb0 := Lib.hid (below_alloc w (.cells #[.slice a0 d.gl.length c0, .slice a1 d.M.length c1, .int .i64 d.R.x, .int .i64 d.R.y, .bool d.R.far, .int .i64 (d.s : Int)] 46))
  have hI' : Hid (∀ w', But (inB h.p h.vc h.vg) w w' → IntSl w' (.slice a0 d.gl.length c0) d.G) := Lib.hid fun w' hb => by
    obtain ⟨a, c, e, hx⟩ := hI
    refine ⟨a, c, e, fun h0 => ?_⟩
    obtain ⟨b, o, rfl, hi⟩ := hx h0
    simp only [Value.slice.injEq] at e
    exact ⟨b, o, rfl, hi.but hb (fun hk => hIn b o e.1 (.inr (.inr hk)))⟩
  have hS' : Hid (∀ w', But (inB h.p h.vc h.vg) w w' → 0 < d.M.length → ∃ b o, a1 = some ⟨b, o, none⟩ ∧ SpotsAt w' b o (d.M.map qS)) := Lib.hid fun w' hb h0 => by
    obtain ⟨b, o, e, hsp, hn⟩ := hS h0
    exact ⟨b, o, e, hsp.but hb (fun hk => hn (.inr (.inr hk)))⟩
  obtain ⟨n, hn⟩ : ∃ n, d.gl.length = n := ⟨_, rfl⟩
  obtain ⟨m, hm⟩ : ∃ m, d.M.length = m := ⟨_, rfl⟩
  rw [hn, hm] at kD hb0
  rw [hn] at hI'
  rw [hn, hm]
  replace hn := Lib.hid hn
  replace hm := Lib.hid hm
  replace hP := Lib.hid hP
  replace hg := Lib.hid hg
  clear v hs hD hI hIn hS hst hd
  replace h0 := Lib.hid h0
  have hdn : ¬ inB h.p h.vc h.vg w.heap.size := fun h1 => by have := (v'.out.bk.blk _ h1).2; omega
  have hDl := Lib.hid (DlAt.fresh2 w (.slice a0 n c0) (.slice a1 m c1) d.R (d.s : Int) 46)
  go_enter Tryz.func18, Tryz.ntmps18
  go_upto_region 3 with fail
  go_cut [5] from 13 to 18 (fun s5 wx => s5 = .nilIface ∧ (∃ vc' vg', BkV wx B h.p vc' vg' (stN M0 (s.ds ++ [d])) (stG M0 (s.ds ++ [d])) ∧ (∀ k, inB h.p vc' vg' k → inB h.p h.vc h.vg k ∨ w.heap.size ≤ k) ∧ But (inB h.p h.vc h.vg) w wx) ∧ DlAt wx w.heap.size (.slice a0 n c0) (.slice a1 m c1) d.R (d.s : Int))
  case first =>
    go_region_with (first | (go_at_call 38; refine (kD.out _ (by repeat (with_reducible first | exact Below.refl _ _ | exact hb0.out | refine balloc ?_ _ | refine Below.drew ?_))).mono ?_; rintro e w2 ⟨rfl, vc', vg', hv2, hin2, hbt2⟩) | fail)
    all_goals
      go_wp2_with fail
      go_meet
      exact ⟨rfl, ⟨vc', vg', hv2, fun k hk => (hin2 k hk).imp id (fun h1 => Nat.le_trans hb0.out.size h1), (But.of_below hb0.out).trans (But.drew1 hbt2)⟩, hDl.out.keep hbt2.size (hbt2.block _ (by show w.heap.size < _; simp) hdn)⟩
  case rest =>
  obtain ⟨rfl, ⟨vc', vg', hv2, hin2, hbt2⟩, hDl2⟩ := hcut
  obtain ⟨w2, hw2⟩ : ∃ x, x = wc := ⟨_, rfl⟩
  subst hw2
  clear hDl kD
  have hBw : Below B w w2 := hbt2.below hB (fun k hk => (v'.out.bk.blk k hk).1)
  have hQ2 := v'.out.Q.keep hbt2.size (hbt2.block q ql v'.out.nq)
  have hz2 := hbt2.size
  have hRc := Lib.hid (lrec_c d.gl d.M d.R d.s a0 a1 c0 c1 w2 (hg.out w2 hBw).2.2 ok.out.g1 ok.out.gb ok.out.m ok.out.o ok.out.s1 (by rw [hn.out]; exact hI'.out w2 hbt2) (by exact hS'.out w2 hbt2))
  rw [hn.out, hm.out] at hRc
  have hrx : recD d.gl d.M d.R d.s = recX d := rfl
  rw [hrx] at hRc
  have hrl := ok.out.len
  obtain ⟨d0, d1, d2, d3, d4, d5, -, -, -, -, -, -, dl⟩ := hDl2
  replace hv2 := Lib.hid hv2
  replace hin2 := Lib.hid hin2
  replace hbt2 := Lib.hid hbt2
  replace hQ2 := Lib.hid hQ2
  replace hBw := Lib.hid hBw
  go_wp2_with fail
  refine hRc.out.mono ?_; rintro e w3 ⟨rfl, hb3⟩
  have hQ3 := hQ2.out.below hb3
  have hSt := Lib.hid (lstep_c q _ _ _ _ _ s.lf w3 hQ3 hP.out.l0 hP.out.l1)
  replace hb3 := Lib.hid hb3
  clear d0 d1 d2 d3 d4 d5 dl hRc
  rw [decide_eq_false h0.out] at hSt
  go_wp2_with fail
  refine hSt.out.mono ?_; rintro e w4 ⟨rfl, hQ4, hb4⟩
  have hz3 := hb3.out.size
  have hz4 := hb4.size
  have c2 := hQ4.c2
  have f2 := hQ4.f 2
  have ql4 := hQ4.lt
  have hQ5 := hQ4.set2 (.string (bS s.bytes ++ bS (recX d)))
  have e5 : bS s.bytes ++ bS (recX d) = bS (s.done d).bytes := by
    rw [bS_app]; unfold LgS.done LgS.bytes; rw [recsB_snoc]
    have := hP.out.h0 hst0.out
    rw [this]; simp
  have zb : ¬ (9223372036854775807 < (bS s.bytes).size + (bS (recX d)).size) := by rw [bS_size, bS_size]; omega
  have hbq : But (fun k => k = q) w3 (w4.setCell ⟨q, 2, none⟩ (.string (bS s.bytes ++ bS (recX d)))) := hb4.trans (But.setCell (S := fun k => k = q) (p := ⟨q, 2, none⟩) rfl _)
  have hFin := Lib.hid (v'.out.did2 (s' := s.done d) hv2.out hin2.out hbt2.out hb3.out hbq (by rw [← e5]; exact hQ5))
  replace e5 := Lib.hid e5
  clear hQ4 hQ5 hb4 hbq hSt
  generalize bS s.bytes = S1 at *
  generalize bS (recX d) = S2 at *
  go_wp2
  go_ret
  exact ⟨rfl, hFin.out⟩
theorem LgV.coins {w : World} {B q : Nat} {M0 : List Int} {h : LgH} {s : LgS} (v : LgV w B q M0 h s) : 0 < (M0.map qS).length → ∃ b o, h.ac = some ⟨b, o, none⟩ ∧ SpotsAt w b o (M0.map qS) := fun h0 => by
  obtain ⟨b, o, e, hs, -⟩ := own_lieS v.co (by rw [List.length_map]) h0
  exact ⟨b, o, e, hs⟩
set_option maxHeartbeats 8000000 in
theorem LgV.do_0 {w : World} {B q : Nat} {M0 : List Int} {h : LgH} {s : LgS} (v : LgV w B q M0 h s) (hP : LgP M0 s) (hB : B ≤ w.heap.size) (hg : Glo B w) (hs : s.st = false) (d : Rec) (hd : Done (stN M0 s.ds) (stG M0 s.ds) d) (a0 a1 : Option Addr) (c0 c1 : Nat)
    (hI : IntSl w (.slice a0 d.gl.length c0) d.G) (hIn : ∀ b o, a0 = some ⟨b, o, none⟩ → ¬ inL M0 q h b) (hS : 0 < d.M.length → ∃ b o, a1 = some ⟨b, o, none⟩ ∧ SpotsAt w b o (d.M.map qS) ∧ ¬ inL M0 q h b)
    (hD : ∀ w1, Below w.heap.size w w1 → Calls Tryz.prog 38 #[.pointer (some ⟨h.p, 0, none⟩), dlV (.slice a0 d.gl.length c0) (.slice a1 d.M.length c1) d.R (d.s : Int)] w1 fun e w' => e = .returned .nilIface ∧ Did w1 w' B h.p h.vc h.vg (stN M0 (s.ds ++ [d])) (stG M0 (s.ds ++ [d]))) (h0 : s.lf = 0) :
    Calls Tryz.prog 18 #[.pointer (some ⟨q, 0, none⟩), dlV (.slice a0 d.gl.length c0) (.slice a1 d.M.length c1) d.R (d.s : Int)] w fun e w' => e = .returned (errV 6) ∧ LgDid w w' B q M0 h (s.halt d) := by
  have hby := Lib.hid (hP.bytes0 hs)
  have hst0 := Lib.hid hs
  have hlB := hP.len
  have c5 := v.Q.c5
  have c1' := v.Q.c1
  have ql := v.Q.lt
  have hw0 := v.bk.blk h.p (.inl rfl)
  rw [hs] at c5
  have kD := Lib.hid hD
  have v' := Lib.hid v
  have ok := Lib.hid hd.ok
  have hst := lstep_c
  have hb0 := Lib.hid (below_alloc w (.cells #[.slice a0 d.gl.length c0, .slice a1 d.M.length c1, .int .i64 d.R.x, .int .i64 d.R.y, .bool d.R.far, .int .i64 (d.s : Int)] 46))
  have hI' : Hid (∀ w', But (inB h.p h.vc h.vg) w w' → IntSl w' (.slice a0 d.gl.length c0) d.G) := Lib.hid fun w' hb => by
    obtain ⟨a, c, e, hx⟩ := hI
    refine ⟨a, c, e, fun h0 => ?_⟩
    obtain ⟨b, o, rfl, hi⟩ := hx h0
    simp only [Value.slice.injEq] at e
    exact ⟨b, o, rfl, hi.but hb (fun hk => hIn b o e.1 (.inr (.inr hk)))⟩
  have hS' : Hid (∀ w', But (inB h.p h.vc h.vg) w w' → 0 < d.M.length → ∃ b o, a1 = some ⟨b, o, none⟩ ∧ SpotsAt w' b o (d.M.map qS)) := Lib.hid fun w' hb h0 => by
    obtain ⟨b, o, e, hsp, hn⟩ := hS h0
    exact ⟨b, o, e, hsp.but hb (fun hk => hn (.inr (.inr hk)))⟩
  obtain ⟨n, hn⟩ : ∃ n, d.gl.length = n := ⟨_, rfl⟩
  obtain ⟨m, hm⟩ : ∃ m, d.M.length = m := ⟨_, rfl⟩
  rw [hn, hm] at kD hb0
  rw [hn] at hI'
  rw [hn, hm]
  replace hn := Lib.hid hn
  replace hm := Lib.hid hm
  replace hP := Lib.hid hP
  replace hg := Lib.hid hg
  clear v hs hD hI hIn hS hst hd
  replace h0 := Lib.hid h0
  have hdn : ¬ inB h.p h.vc h.vg w.heap.size := fun h1 => by have := (v'.out.bk.blk _ h1).2; omega
  have hDl := Lib.hid (DlAt.fresh2 w (.slice a0 n c0) (.slice a1 m c1) d.R (d.s : Int) 46)
  go_enter Tryz.func18, Tryz.ntmps18
  go_upto_region 3 with fail
  go_cut [5] from 13 to 18 (fun s5 wx => s5 = .nilIface ∧ (∃ vc' vg', BkV wx B h.p vc' vg' (stN M0 (s.ds ++ [d])) (stG M0 (s.ds ++ [d])) ∧ (∀ k, inB h.p vc' vg' k → inB h.p h.vc h.vg k ∨ w.heap.size ≤ k) ∧ But (inB h.p h.vc h.vg) w wx) ∧ DlAt wx w.heap.size (.slice a0 n c0) (.slice a1 m c1) d.R (d.s : Int))
  case first =>
    go_region_with (first | (go_at_call 38; refine (kD.out _ (by repeat (with_reducible first | exact Below.refl _ _ | exact hb0.out | refine balloc ?_ _ | refine Below.drew ?_))).mono ?_; rintro e w2 ⟨rfl, vc', vg', hv2, hin2, hbt2⟩) | fail)
    all_goals
      go_wp2_with fail
      go_meet
      exact ⟨rfl, ⟨vc', vg', hv2, fun k hk => (hin2 k hk).imp id (fun h1 => Nat.le_trans hb0.out.size h1), (But.of_below hb0.out).trans (But.drew1 hbt2)⟩, hDl.out.keep hbt2.size (hbt2.block _ (by show w.heap.size < _; simp) hdn)⟩
  case rest =>
  obtain ⟨rfl, ⟨vc', vg', hv2, hin2, hbt2⟩, hDl2⟩ := hcut
  obtain ⟨w2, hw2⟩ : ∃ x, x = wc := ⟨_, rfl⟩
  subst hw2
  clear hDl kD
  have hBw : Below B w w2 := hbt2.below hB (fun k hk => (v'.out.bk.blk k hk).1)
  have hQ2 := v'.out.Q.keep hbt2.size (hbt2.block q ql v'.out.nq)
  have hz2 := hbt2.size
  have hRc := Lib.hid (lrec_c d.gl d.M d.R d.s a0 a1 c0 c1 w2 (hg.out w2 hBw).2.2 ok.out.g1 ok.out.gb ok.out.m ok.out.o ok.out.s1 (by rw [hn.out]; exact hI'.out w2 hbt2) (by exact hS'.out w2 hbt2))
  rw [hn.out, hm.out] at hRc
  have hrx : recD d.gl d.M d.R d.s = recX d := rfl
  rw [hrx] at hRc
  have hrl := ok.out.len
  obtain ⟨d0, d1, d2, d3, d4, d5, -, -, -, -, -, -, dl⟩ := hDl2
  replace hv2 := Lib.hid hv2
  replace hin2 := Lib.hid hin2
  replace hbt2 := Lib.hid hbt2
  replace hQ2 := Lib.hid hQ2
  replace hBw := Lib.hid hBw
  go_wp2_with fail
  refine hRc.out.mono ?_; rintro e w3 ⟨rfl, hb3⟩
  have hQ3 := hQ2.out.below hb3
  have hSt := Lib.hid (lstep_c q _ _ _ _ _ s.lf w3 hQ3 hP.out.l0 hP.out.l1)
  replace hb3 := Lib.hid hb3
  clear d0 d1 d2 d3 d4 d5 dl hRc
  rw [decide_eq_true h0.out] at hSt
  have hco3 := own_below (own_but v'.out.co hbt2.out (fun k e => (v'.out.nc k e).2)) hb3.out
  go_wp2_with fail
  refine hSt.out.mono ?_; rintro e w4 ⟨rfl, hQ4, hb4⟩
  have hz3 := hb3.out.size
  have hz4 := hb4.size
  have hB4 : Below B w w4 := (hBw.out.trans (hb3.out.mono (by omega))).trans (hb4.below (by omega) (fun k hk => by have := v'.out.qB; omega))
  have hco4 := own_but hco3 hb4 (fun k e => (v'.out.nc k e).1)
  have hL4 : 0 < (M0.map qS).length → ∃ b o, h.ac = some ⟨b, o, none⟩ ∧ SpotsAt w4 b o (M0.map qS) := fun h0 => by
    obtain ⟨b, o, e, hs, -⟩ := own_lieS hco4 (by rw [List.length_map]) h0
    exact ⟨b, o, e, hs⟩
  have hQ4' := hQ4
  rw [hby.out] at hQ4'
  have c2 := hQ4'.c2
  have ql4 := hQ4.lt
  have hRd := Lib.hid (lredo_c M0 s.ds hP.out.all hP.out.m (by have := hP.out.n; omega) q h.ac h.cc _ _ _ _ _ w4 (hg.out w4 hB4).1 (hg.out w4 hB4).2.1 hQ4' hL4)
  replace hco4 := Lib.hid hco4
  replace hB4 := Lib.hid hB4
  replace hb4 := Lib.hid hb4
  clear hSt hL4 hQ4 hQ4' hco3
  go_wp2_with fail
  refine hRd.out.mono ?_; rintro e w5 ⟨rfl, p', vc2, vg2, hQ5, hv5, hb5⟩
  have hz5 := hb5.size
  have hbytes : (recsB s.ds).flatten.length ≤ 20000 * 501 := by have h1 := hby.out; rw [h1] at hlB; exact hlB
  obtain ⟨S1, hS1⟩ : ∃ S1, bS (recsB s.ds).flatten = S1 := ⟨_, rfl⟩
  obtain ⟨S2, hS2⟩ : ∃ S2, bS (recX d) = S2 := ⟨_, rfl⟩
  obtain ⟨S3, hS3⟩ : ∃ S3, bS ((recX d).take ((recX d).length / 2)) = S3 := ⟨_, rfl⟩
  have hx2 : S2.size = (recX d).length := by rw [← hS2, bS_size]
  have hx1 : S1.size = (recsB s.ds).flatten.length := by rw [← hS1, bS_size]
  have hx3 : S3.size ≤ (recX d).length := by rw [← hS3, bS_size, List.length_take]; omega
  have hex : S2.extract 0 (S2.size / 2) = S3 := by rw [← hS2, ← hS3, bS_size]; exact bS_half _ hrl.2
  obtain ⟨H2, hH2⟩ : ∃ H2, S2.size / 2 = H2 := ⟨_, rfl⟩
  have hh2 : H2 ≤ S2.size := by omega
  have hw2 : IntKind.i64.wrap ((S2.size : Int) / 2) = (H2 : Int) := by rw [IntKind.wrap_i64]; omega
  rw [hH2] at hex
  have zb : ¬ (9223372036854775807 < S1.size + S3.size) := by omega
  have c2' := hQ5.c2
  have f2' := hQ5.f 2
  have ql5 := hQ5.lt
  have hQ6 := hQ5.set2 (.string (S1 ++ S3))
  have e6 : S1 ++ S3 = bS (s.halt d).bytes := by rw [← hS1, ← hS3, bS_app]; rfl
  rw [hS1] at c2'
  rw [hS2]
  replace hS1 := Lib.hid hS1
  replace hS2 := Lib.hid hS2
  replace hS3 := Lib.hid hS3
  replace hx1 := Lib.hid hx1
  replace hx2 := Lib.hid hx2
  replace hx3 := Lib.hid hx3
  replace e6 := Lib.hid e6
  replace hH2 := Lib.hid hH2
  clear c2 hRd hbytes
  go_upto_region 9 with fail
  go_region
  have hFin := Lib.hid (v'.out.did3 (s' := s.halt d) (w4 := w4) (w6 := (w5.setCell ⟨q, 2, none⟩ (.string (S1 ++ S3))).drew) ((But.trans (hbt2.out.mono fun k _ hk => .inr (.inr hk)) (But.of_below hb3.out)).trans (hb4.out.mono fun k _ hk => .inl hk)) hco4.out hv5 ((hb5.trans (But.setCell (S := fun k => k = q) (p := ⟨q, 2, none⟩) rfl _)).trans (But.of_below (Below.refl _ _).drew)) (by have := v'.out.Q.lt; omega) (by omega) (by have := (hQ6.below (Below.refl _ _).drew); rw [← e6.out]; exact this) (by simp) (fun k hk => heap_setCell_other w5 ⟨q, 2, none⟩ k _ hk))
  clear hQ5 hQ6 hv5 hb5 hco4 hbt2 hin2 hv2 hb3 hb4
  go_wp2
  go_ret
  exact ⟨rfl, hFin.out⟩
end Go.Proofs.YtahgaccdeakmcaaGreatDoor
namespace Go.Proofs.YtahgaccdeakmcaaGreatDoor
open Go.RowKit
set_option maxRecDepth 100000
set_option linter.unusedVariables false
set_option linter.unusedSimpArgs false
attribute [local go_sem ↓] Go.wp_at_zero Go.wp_at_succ
/-- How far what is left reaches. -/
def cutAt (s : LgS) (keep : Int) : Nat := (s.sf + max 0 (min keep (s.bytes.length - s.sf))).toNat
def LgS.crash (s : LgS) (keep : Int) : LgS :=
  ⟨s.ds.take (keepN (recsB s.ds) (cutAt s keep)), [], ((recsB (s.ds.take (keepN (recsB s.ds) (cutAt s keep)))).flatten.length : Int), -1, false⟩
theorem recsB_take (ds : List Rec) (k : Nat) : recsB (ds.take k) = (recsB ds).take k := by unfold recsB; rw [List.map_take]
set_option maxHeartbeats 16000000 in
theorem LgV.crash_c {w : World} {B q : Nat} {M0 : List Int} {h : LgH} {s : LgS} (v : LgV w B q M0 h s) (hP : LgP M0 s) (hB : B ≤ w.heap.size) (hg : Glo B w) (keep : Int) (hk0 : -9223372036854775808 ≤ keep) (hk1 : keep ≤ 9223372036854775807) :
    Calls Tryz.prog 21 #[.pointer (some ⟨q, 0, none⟩), .int .i64 keep] w fun e w' => (∃ u, e = .returned u) ∧ LgDid w w' B q M0 h (s.crash keep) := by
  obtain ⟨N, hN⟩ : ∃ N, cutAt s keep = N := ⟨_, rfl⟩
  have hlen := hP.len
  have s0 := hP.s0
  have s1 := hP.s1
  have hNi : s.sf + max 0 (min keep ((s.bytes.length : Int) - s.sf)) = (N : Int) := by rw [← hN]; unfold cutAt; omega
  have hNl : N ≤ s.bytes.length := by omega
  obtain ⟨k, hk⟩ : ∃ k, keepN (recsB s.ds) N = k := ⟨_, rfl⟩
  obtain ⟨x1, x2⟩ := crash_cut (recsB s.ds) s.hf N (recsB_line s.ds) hP.nl
  rw [hk, ← recsB_take] at x1 x2
  have hfl : (recsB s.ds).flatten ++ s.hf = s.bytes := rfl
  rw [hfl] at x1 x2
  have hcr : s.crash keep = ⟨s.ds.take k, [], ((recsB (s.ds.take k)).flatten.length : Int), -1, false⟩ := by unfold LgS.crash; rw [hN, hk]
  rw [hcr]
  have hds : (s.ds.take k).length ≤ 1000 := by rw [List.length_take]; have := hP.n; omega
  have hRd := fun (w1 : World) (hb : Below w.heap.size w w1) (h1 : FarAt w1) (h2 : AscAt w1) => lredo_c M0 (s.ds.take k) (hP.all.take k) hP.m hds q h.ac h.cc _ _ _ _ _ w1 h1 h2 (v.Q.below hb) (fun h0 => by obtain ⟨b, o, e, hs⟩ := v.coins h0; exact ⟨b, o, e, hs.below hb⟩)
  obtain ⟨T, hT⟩ : ∃ T, recsB (s.ds.take k) = T := ⟨_, rfl⟩
  rw [hT] at x1 x2 hRd
  obtain ⟨F, hF⟩ : ∃ F, T.flatten = F := ⟨_, rfl⟩
  rw [hF] at x1 x2 hRd
  obtain ⟨S4, hS4⟩ : ∃ S4, bS (s.bytes.take N) = S4 := ⟨_, rfl⟩
  obtain ⟨S5, hS5⟩ : ∃ S5, bS F = S5 := ⟨_, rfl⟩
  obtain ⟨S, hS⟩ : ∃ S, bS s.bytes = S := ⟨_, rfl⟩
  have hSz : S.size = s.bytes.length := by rw [← hS, bS_size]
  have hFl : F.length ≤ s.bytes.length := by
    have := congrArg List.length x2
    rw [List.length_take, List.length_take] at this
    omega
  have h4z : S4.size = (s.bytes.take N).length := by rw [← hS4, bS_size]
  have h4l : F.length ≤ S4.size := by rw [h4z]; have := congrArg List.length x2; rw [List.length_take] at this; omega
  have hx4 : S.extract 0 N = S4 := by rw [← hS, ← hS4]; exact bS_extract _ _ _ _ (by simp)
  have hx5 : S4.extract 0 F.length = S5 := by rw [← hS4, ← hS5]; exact bS_extract _ _ _ _ (by rw [List.drop_zero, Nat.sub_zero]; exact x2)
  obtain ⟨LI, hLI⟩ : ∃ LI, Lib.lastIndex (s.bytes.take N) [10] = LI := ⟨_, rfl⟩
  rw [hLI] at x1
  have hLC := fun w1 : World => Tryz.strings_LastIndex S4 ⟨#[10]⟩ (by rw [h4z, List.length_take]; omega) w1
  have e10 : (⟨#[10]⟩ : ByteArray).data.toList = [10] := rfl
  rw [show S4.data.toList = s.bytes.take N by rw [← hS4, bS_list], e10, hLI] at hLC
  rw [hS5] at hRd
  have c2 := v.Q.c2
  have c3 := v.Q.c3
  have ql := v.Q.lt
  have v' := Lib.hid v
  rw [hS] at c2
  obtain ⟨FL, hFL⟩ : ∃ FL, F.length = FL := ⟨_, rfl⟩
  rw [hFL] at x1 hx5 h4l hFl
  rw [← hSz] at hNi hNl hlen s1 hFl
  have hLb : LI = (FL : Int) - 1 := by omega
  have hSb : S.size ≤ 20000000 := by omega
  have hS4b : S4.size ≤ 20000000 := by rw [h4z, List.length_take]; omega
  have hFLb : FL ≤ 20000000 := by omega
  replace hLb := Lib.hid hLb
  replace hRd := Lib.hid hRd
  replace hLC := Lib.hid hLC
  replace hT := Lib.hid hT
  replace hF := Lib.hid hF
  replace hS := Lib.hid hS
  replace hS4 := Lib.hid hS4
  replace hS5 := Lib.hid hS5
  replace hSz := Lib.hid hSz
  replace h4z := Lib.hid h4z
  replace hFL := Lib.hid hFL
  replace hP := Lib.hid hP
  replace hg := Lib.hid hg
  replace x2 := Lib.hid x2
  clear v hN hk hfl hcr hLI e10 hFl hlen
  go_enter Tryz.func21, Tryz.ntmps21
  go_upto_region 0 with fail
  go_region
  have hbd : Below w.heap.size w w.drew := (Below.refl _ _).drew
  have hgd := hg.out w.drew (Below.refl _ _).drew
  have hRd' := Lib.hid (hRd.out w.drew hbd hgd.1 hgd.2.1)
  clear c2 c3 hRd hbd hgd
  go_wp2_with fail
  refine (hLC.out _).mono ?_; rintro e w1 ⟨rfl, rfl⟩
  go_wp2_with fail
  refine hRd'.out.mono ?_; rintro e w5 ⟨rfl, p', vc2, vg2, hQ5, hv5, hb5⟩
  have hQ6 := (((hQ5.set2 (.string S5)).set3 (.int .i64 (S5.size : Int))).set4 (.int .i64 (-1))).set5 (.bool false)
  have hb6 : But (fun k => k = q) w5 ((((w5.setCell ⟨q, 2, none⟩ (.string S5)).setCell ⟨q, 3, none⟩ (.int .i64 (S5.size : Int))).setCell ⟨q, 4, none⟩ (.int .i64 (-1))).setCell ⟨q, 5, none⟩ (.bool false)) :=
    (((But.setCell (S := fun k => k = q) (p := ⟨q, 2, none⟩) rfl _).trans (But.setCell (S := fun k => k = q) (p := ⟨q, 3, none⟩) rfl _)).trans (But.setCell (S := fun k => k = q) (p := ⟨q, 4, none⟩) rfl _)).trans (But.setCell (S := fun k => k = q) (p := ⟨q, 5, none⟩) rfl _)
  have hkk : ∀ k, k ≠ q → ((((w5.setCell ⟨q, 2, none⟩ (.string S5)).setCell ⟨q, 3, none⟩ (.int .i64 (S5.size : Int))).setCell ⟨q, 4, none⟩ (.int .i64 (-1))).setCell ⟨q, 5, none⟩ (.bool false)).heap[k]? = w5.heap[k]? := fun k hk => by
    rw [heap_setCell_other _ ⟨q, 5, none⟩ k _ hk, heap_setCell_other _ ⟨q, 4, none⟩ k _ hk, heap_setCell_other _ ⟨q, 3, none⟩ k _ hk, heap_setCell_other _ ⟨q, 2, none⟩ k _ hk]
  have eS5 : S5 = bS (LgS.bytes ⟨s.ds.take k, [], (S5.size : Int), -1, false⟩) := by
    unfold LgS.bytes; rw [hT.out, hF.out, List.append_nil, hS5.out]
  have hzS : (S5.size : Int) = (F.length : Int) := by rw [← hS5.out, bS_size]
  have hFin := v'.out.did3 (s' := ⟨s.ds.take k, [], (S5.size : Int), -1, false⟩) (w4 := w.drew) (But.of_below (Below.refl _ _).drew) (own_below v'.out.co (Below.refl _ _).drew) hv5 (hb5.trans hb6) ql hB (by rw [← eS5]; exact hQ6) hb6.size hkk
  have c2 := hQ5.c2
  have c3 := hQ5.c3
  have c4 := hQ5.c4
  have c5 := hQ5.c5
  have f2 := hQ5.f 2
  have f3 := hQ5.f 3
  have f4 := hQ5.f 4
  have f5 := hQ5.f 5
  have ql5 := hQ5.lt
  replace hFin := Lib.hid hFin
  replace hzS := Lib.hid hzS
  clear hQ5 hQ6 hb6 hkk hv5 hb5 eS5 hRd'
  go_wp2
  go_end0
  refine ⟨⟨_, rfl⟩, ?_⟩
  rw [hT.out, hF.out, ← hzS.out]
  exact hFin.out
theorem LgP.done {M0 : List Int} {s : LgS} (h : LgP M0 s) (hs : s.st = false) (hn : s.ds.length < 500) {d : Rec} (hd : Done (stN M0 s.ds) (stG M0 s.ds) d) : LgP M0 (s.done d) := by
  have hb := h.bytes0 hs
  have h1 := h.s1
  have hl := dec1_bd h.l0 h.l1
  refine ⟨h.all.snoc hd, h.m, ?_, fun b hb => absurd hb List.not_mem_nil, Nat.zero_le _, fun _ => rfl, h.s0, ?_, hl.1, hl.2⟩
  · show (s.ds ++ [d]).length ≤ 500
    rw [List.length_append]; simp; omega
  · show s.sf ≤ ((LgS.bytes ⟨s.ds ++ [d], [], s.sf, dec1 s.lf, false⟩).length : Int)
    unfold LgS.bytes at hb ⊢
    rw [h.h0 hs, List.append_nil] at hb
    rw [LgS.bytes, h.h0 hs, List.append_nil] at h1
    rw [List.append_nil, recsB_snoc, List.length_append]
    omega
theorem LgP.halt {M0 : List Int} {s : LgS} (h : LgP M0 s) (hs : s.st = false) {d : Rec} (hd : RecOk d) : LgP M0 (s.halt d) := by
  have h1 := h.s1
  have hl := dec1_bd h.l0 h.l1
  obtain ⟨b, hb, hnl⟩ := recX_line d
  have hlen := hd.len
  refine ⟨h.all, h.m, h.n, fun x hx => ?_, ?_, fun e => (by cases e), h.s0, ?_, hl.1, hl.2⟩
  · have hx' : x ∈ (recX d).take ((recX d).length / 2) := hx
    have h2 : (recX d).length / 2 ≤ b.length := by rw [hb] at hlen ⊢; simp at hlen ⊢; omega
    rw [hb, List.take_append_of_le_length (by rw [← hb]; exact h2)] at hx'
    exact hnl x (List.mem_of_mem_take hx')
  · show ((recX d).take ((recX d).length / 2)).length ≤ 20000
    rw [List.length_take]; omega
  · show s.sf ≤ ((LgS.bytes ⟨s.ds, (recX d).take ((recX d).length / 2), s.sf, dec1 s.lf, true⟩).length : Int)
    unfold LgS.bytes at h1 ⊢
    rw [h.h0 hs, List.append_nil] at h1
    rw [List.length_append]
    dsimp only
    omega
theorem LgP.crash {M0 : List Int} {s : LgS} (h : LgP M0 s) (keep : Int) : LgP M0 (s.crash keep) := by
  refine ⟨h.all.take _, h.m, ?_, fun b hb => absurd hb List.not_mem_nil, Nat.zero_le _, fun _ => rfl, Int.natCast_nonneg _, ?_, by show -1 ≤ (-1 : Int); decide, by show (-1 : Int) ≤ _; decide⟩
  · show (s.ds.take _).length ≤ 500
    rw [List.length_take]; have := h.n; omega
  · show ((recsB (s.ds.take _)).flatten.length : Int) ≤ ((LgS.bytes ⟨s.ds.take _, [], _, -1, false⟩).length : Int)
    unfold LgS.bytes
    rw [List.append_nil]
    exact Int.le_refl _
theorem LgP.nums {M0 : List Int} {s : LgS} (h : LgP M0 s) (sf lf : Int) (st : Bool) (hs : st = false → s.st = false) (h0 : 0 ≤ sf) (h1 : sf ≤ s.bytes.length) (l0 : -1 ≤ lf) (l1 : lf ≤ 9223372036854775807) : LgP M0 { s with sf := sf, lf := lf, st := st } :=
  ⟨h.all, h.m, h.n, h.nl, h.hl, fun e => h.h0 (hs e), h0, h1, l0, l1⟩
theorem LgDid.glo {w w' : World} {B q : Nat} {M0 : List Int} {h : LgH} {s s' : LgS} (hd : LgDid w w' B q M0 h s') (v : LgV w B q M0 h s) (hB : B ≤ w.heap.size) : Below B w w' := by
  obtain ⟨h', -, -, hb⟩ := hd
  exact hb.below hB (fun k hk => (v.blk k hk).1)
end Go.Proofs.YtahgaccdeakmcaaGreatDoor
namespace Go.Proofs.YtahgaccdeakmcaaGreatDoor
open Go.RowKit Go.Extern.Stop Go.Stop Go.Extern
set_option maxRecDepth 100000
set_option linter.unusedVariables false
set_option linter.unusedSimpArgs false
/-- The variable errors.errorType reads as laid. -/
def ErrAt (w : World) : Prop := w.cell? ⟨2, 0, none⟩ = some (.iface 204 (.agg #[.pointer (some ⟨13, 30, none⟩)])) ∧ 2 < w.heap.size
theorem ErrAt.below {w w' : World} (h : ErrAt w) (hb : Below w.heap.size w w') : ErrAt w' := ⟨((bcell hb).1 _ _ h.2).trans h.1, Nat.lt_of_lt_of_le h.2 hb.size⟩
/-! The model's entries for reflectlite, at this program's types. -/
theorem rl_value (t : Addr) (w : World) : (ReflectliteValue.unpack (.iface 127 (.pointer (some t)))).run Tryz.prog w
    = .ok (.agg #[.pointer (some ⟨13, 127, none⟩), .pointer (some ⟨w.heap.size, 0, none⟩), .int .u64 150]) (w.alloc (.cells #[.pointer (some t)] 127)) := by kernel_rfl
theorem rl_type (a : Addr) (w : World) : (ReflectliteValue.methodAny (ReflectliteValue.valueError "reflectlite.Value.Type" 0) (fun t _ _ _ => ReflectliteType.toType t) #[.agg #[.pointer (some ⟨13, 127, none⟩), .pointer (some a), .int .u64 150]]).run Tryz.prog w
    = .ok (.iface 204 (.agg #[.pointer (some ⟨13, 127, none⟩)])) w := by kernel_rfl
theorem rl_kindm (h : Value) (w : World) : (Go.method 403 204 (.agg #[h]) "Kind").run Tryz.prog w = .ok (245, h) w := by kernel_rfl
theorem rl_kind (w : World) : ((ReflectliteType.abiMethod fun t => (fun a : Nat => Value.int IntKind.u8 (a : Int)) <$> Rtype.kind t) #[.pointer (some ⟨13, 127, none⟩)]).run Tryz.prog w = .ok (.int .u8 22) w := by kernel_rfl
theorem rl_kinde (w : World) : ((ReflectliteType.abiMethod fun t => (fun a : Nat => Value.int IntKind.u8 (a : Int)) <$> Rtype.kind t) #[.pointer (some ⟨13, 94, none⟩)]).run Tryz.prog w = .ok (.int .u8 2) w := by kernel_rfl
theorem rl_m (z : Sem Value) (f : TypeId → Addr → Nat → Nat → Sem Value) (v : Value) :
    ReflectliteValue.method z f #[v] = (do match ← ReflectliteValue.parts v with | none => z | some (t, a, fl) => f t a fl (fl % 32)) := rfl
theorem rl_parts (a : Addr) (w : World) : (ReflectliteValue.parts (.agg #[.pointer (some ⟨13, 127, none⟩), .pointer (some a), .int .u64 150])).run Tryz.prog w = .ok (some (127, a, 150)) w := by kernel_rfl
theorem rl_nil (a p : Addr) (W : World) (ha : W.cell? a = some (.pointer (some p))) :
    (ReflectliteValue.method (ReflectliteValue.valueError "reflectlite.Value.IsNil" 0) ReflectliteValue.isNil #[.agg #[.pointer (some ⟨13, 127, none⟩), .pointer (some a), .int .u64 150]]).run Tryz.prog W = .ok (.bool false) W := by
  rw [rl_m]
  simp only [Sem.run_bind, rl_parts, Result.andThen]
  simp [ReflectliteValue.isNil, loadVar, isAgg, underlying, Tryz.underlying127, ha, Result.andThen]
theorem rl_elemm (h : Value) (w : World) : (Go.method 403 204 (.agg #[h]) "Elem").run Tryz.prog w = .ok (256, .agg #[h]) w := by kernel_rfl
theorem rl_implm (h : Value) (w : World) : (Go.method 403 204 (.agg #[h]) "Implements").run Tryz.prog w = .ok (257, .agg #[h]) w := by kernel_rfl
theorem rl_assm (h : Value) (w : World) : (Go.method 403 204 (.agg #[h]) "AssignableTo").run Tryz.prog w = .ok (254, .agg #[h]) w := by kernel_rfl
theorem rl_elem (w : World) : (ReflectliteType.method ReflectliteType.elem #[.agg #[.pointer (some ⟨13, 127, none⟩)]]).run Tryz.prog w = .ok (.iface 204 (.agg #[.pointer (some ⟨13, 94, none⟩)])) w := by kernel_rfl
theorem rl_impl (w : World) : (ReflectliteType.relation "Implements" ReflectliteType.implements_ #[.agg #[.pointer (some ⟨13, 94, none⟩)], .iface 204 (.agg #[.pointer (some ⟨13, 30, none⟩)])]).run Tryz.prog w = .ok (.bool true) w := by kernel_rfl
theorem rl_typeof (v : Value) (w : World) : (ReflectliteType.typeOf #[.iface 94 v]).run Tryz.prog w = .ok (.iface 204 (.agg #[.pointer (some ⟨13, 94, none⟩)])) w := by kernel_rfl
theorem rl_ass (w : World) : (ReflectliteType.relation "AssignableTo" ReflectliteType.assignableTo #[.agg #[.pointer (some ⟨13, 94, none⟩)], .iface 204 (.agg #[.pointer (some ⟨13, 94, none⟩)])]).run Tryz.prog w = .ok (.bool true) w := by kernel_rfl
theorem rl_valuee (k : Int) (w : World) : (ReflectliteValue.unpack (.iface 94 (.int .i64 k))).run Tryz.prog w
    = .ok (.agg #[.pointer (some ⟨13, 94, none⟩), .pointer (some ⟨w.heap.size, 0, none⟩), .int .u64 130]) (w.alloc (.cells #[.int .i64 k] 94)) := by kernel_rfl
theorem rl_elemof (w : World) : (Rtype.elem? 127).run Tryz.prog w = .ok (some 94) w := by kernel_rfl
theorem rl_mk (p : Addr) (w : World) : (ReflectliteValue.mk 94 p ReflectliteValue.flagAddr).run Tryz.prog w = .ok (.agg #[.pointer (some ⟨13, 94, none⟩), .pointer (some p), .int .u64 386]) w := by kernel_rfl
theorem rl_elemv (a p : Addr) (W : World) (ha : W.cell? a = some (.pointer (some p))) :
    (ReflectliteValue.method (ReflectliteValue.valueError "reflectlite.Value.Elem" 0) ReflectliteValue.elem #[.agg #[.pointer (some ⟨13, 127, none⟩), .pointer (some a), .int .u64 150]]).run Tryz.prog W
      = .ok (.agg #[.pointer (some ⟨13, 94, none⟩), .pointer (some p), .int .u64 386]) W := by
  rw [rl_m]
  simp only [Sem.run_bind, rl_parts, Result.andThen]
  simp [ReflectliteValue.elem, loadVar, isAgg, underlying, Tryz.underlying127, ha, Result.andThen, rl_elemof, rl_mk]
theorem rl_s (v x : Value) : ReflectliteValue.set #[v, x] = (do
    let (some (dst, a, fl), some (src, b, _)) := (← ReflectliteValue.parts v, ← ReflectliteValue.parts x)
      | unsupported (.noEntry "extern/(internal/reflectlite.Value).Set.zeroValue")
    if fl / ReflectliteValue.flagAddr % 2 == 0 then unsupported (.noEntry "extern/(internal/reflectlite.Value).Set.unaddressable")
    let val ← loadVar src b
    if ← Rtype.directlyAssignable dst src then storeVar dst a val
    else if ← Rtype.implements dst src then
      if (← Rtype.kind src) == 20 then
        match val with
        | .nilIface => unsupported (.noEntry "extern/reflectlite: a nil value of one interface type handed on as a value of another")
        | _ => storeVar dst a val
      else storeVar dst a (.iface src val)
    else panicString ("reflectlite.Set: value of type " ++ (← Rtype.spelt src) ++ " is not assignable to type " ++ (← Rtype.spelt dst))
    pure (.tuple #[])) := rfl
theorem rl_partsa (a : Addr) (w : World) : (ReflectliteValue.parts (.agg #[.pointer (some ⟨13, 94, none⟩), .pointer (some a), .int .u64 386])).run Tryz.prog w = .ok (some (94, a, 386)) w := by kernel_rfl
theorem rl_partse (a : Addr) (w : World) : (ReflectliteValue.parts (.agg #[.pointer (some ⟨13, 94, none⟩), .pointer (some a), .int .u64 130])).run Tryz.prog w = .ok (some (94, a, 130)) w := by kernel_rfl
theorem rl_direct (w : World) : (Rtype.directlyAssignable 94 94).run Tryz.prog w = .ok true w := by kernel_rfl
theorem rl_set (ta b : Addr) (k : Int) (old : Value) (W : World) (hb : W.cell? b = some (.int .i64 k)) (ht : W.cell? ta = some old) (hf : W.frozen? ta = false) :
    (ReflectliteValue.set #[.agg #[.pointer (some ⟨13, 94, none⟩), .pointer (some ta), .int .u64 386], .agg #[.pointer (some ⟨13, 94, none⟩), .pointer (some b), .int .u64 130]]).run Tryz.prog W
      = .ok (.tuple #[]) (W.setCell ta (.int .i64 k)) := by
  rw [rl_s]
  simp only [Sem.run_bind, rl_partsa, rl_partse, Result.andThen]
  simp [ReflectliteValue.flagAddr, loadVar, isAgg, underlying, Tryz.underlying94, hb, Result.andThen, rl_direct, storeVar, Value.cells, storeCells, Addr.add]
  rw [run_store Tryz.prog W ta _ _ (by rfl)]
  simp [ht, hf]
set_option maxHeartbeats 4000000 in
theorem as_hit (k : Int) (t : Addr) (old : Value) (w : World) (hg : w.cell? ⟨2, 0, none⟩ = some (.iface 204 (.agg #[.pointer (some ⟨13, 30, none⟩)]))) (hgl : 2 < w.heap.size) (ht0 : w.cell? t = some old) (hf0 : w.frozen? t = false) :
    Calls Tryz.prog 83 #[.iface 94 (.int .i64 k), .iface 127 (.pointer (some t))] w fun ev w' => ev = .returned (.bool true) ∧ w' = ((((w.alloc (.cells #[.pointer (some t)] 127)).alloc (.cells #[.pointer (some ⟨13, 127, none⟩), .pointer (some ⟨w.heap.size, 0, none⟩), .int .u64 150] 166)).alloc (.cells #[.pointer (some ⟨13, 127, none⟩), .pointer (some ⟨w.heap.size, 0, none⟩), .int .u64 150] 166)).alloc (.cells #[.int .i64 k] 94)).setCell t (.int .i64 k) := by
  have h6 := @run_callFunc_extern Tryz.prog 131 _ (fun args => ReflectliteValue.unpack (args.getD 0 (.tuple #[]))) Tryz.func131 (by kernel_rfl) (by kernel_rfl) (by kernel_rfl) (by kernel_rfl)
  have h7 := @run_callFunc_extern Tryz.prog 132 _ (ReflectliteValue.methodAny (ReflectliteValue.valueError "reflectlite.Value.Type" 0) (fun t _ _ _ => ReflectliteType.toType t)) Tryz.func132 (by kernel_rfl) (by kernel_rfl) (by kernel_rfl) (by kernel_rfl)
  have h8 := @run_callFunc_extern Tryz.prog 133 _ (ReflectliteValue.method (ReflectliteValue.valueError "reflectlite.Value.IsNil" 0) ReflectliteValue.isNil) Tryz.func133 (by kernel_rfl) (by kernel_rfl) (by kernel_rfl) (by kernel_rfl)
  have h27 := @run_callFunc_extern Tryz.prog 245 _ (ReflectliteType.abiMethod fun t => do pure (.int .u8 (← Rtype.kind t))) Tryz.func245 (by kernel_rfl) (by kernel_rfl) (by kernel_rfl) (by kernel_rfl)
  have h37 := @run_callFunc_extern Tryz.prog 256 _ (ReflectliteType.method ReflectliteType.elem) Tryz.func256 (by kernel_rfl) (by kernel_rfl) (by kernel_rfl) (by kernel_rfl)
  have h38 := @run_callFunc_extern Tryz.prog 257 _ (ReflectliteType.relation "Implements" ReflectliteType.implements_) Tryz.func257 (by kernel_rfl) (by kernel_rfl) (by kernel_rfl) (by kernel_rfl)
  have h10 := @run_callFunc_extern Tryz.prog 175 _ (ReflectliteType.typeOf) Tryz.func175 (by kernel_rfl) (by kernel_rfl) (by kernel_rfl) (by kernel_rfl)
  have h35 := @run_callFunc_extern Tryz.prog 254 _ (ReflectliteType.relation "AssignableTo" ReflectliteType.assignableTo) Tryz.func254 (by kernel_rfl) (by kernel_rfl) (by kernel_rfl) (by kernel_rfl)
  have h11 := @run_callFunc_extern Tryz.prog 176 _ (ReflectliteValue.method (ReflectliteValue.valueError "reflectlite.Value.Elem" 0) ReflectliteValue.elem) Tryz.func176 (by kernel_rfl) (by kernel_rfl) (by kernel_rfl) (by kernel_rfl)
  have h12 := @run_callFunc_extern Tryz.prog 177 _ (ReflectliteValue.set) Tryz.func177 (by kernel_rfl) (by kernel_rfl) (by kernel_rfl) (by kernel_rfl)
  have tO := rl_typeof
  have mA := rl_assm
  have a25 := rl_ass
  have v25 := rl_valuee
  have f6 := rl_value
  have f7 := rl_type
  have mK := rl_kindm
  have mE := rl_elemm
  have mI := rl_implm
  have k27 := rl_kind
  have k25 := rl_kinde
  have e27 := rl_elem
  have i25 := rl_impl
  have n8 := rl_nil ⟨w.heap.size, 0, none⟩ t ((w.alloc (.cells #[.pointer (some t)] 127)).alloc (.cells #[.pointer (some ⟨13, 127, none⟩), .pointer (some ⟨w.heap.size, 0, none⟩), .int .u64 150] 166)) (by simp)
  have hg2 : ((w.alloc (.cells #[.pointer (some t)] 127)).alloc (.cells #[.pointer (some ⟨13, 127, none⟩), .pointer (some ⟨w.heap.size, 0, none⟩), .int .u64 150] 166)).cell? ⟨2, 0, none⟩ = some (.iface 204 (.agg #[.pointer (some ⟨13, 30, none⟩)])) := by
    rw [World.cell?_alloc_lt _ _ ⟨2, 0, none⟩ (by simp; omega), World.cell?_alloc_lt _ _ ⟨2, 0, none⟩ hgl]; exact hg
  have htl : t.block < w.heap.size := by
    rcases Nat.lt_or_ge t.block w.heap.size with h | h
    · exact h
    · simp [World.cell?, Array.getElem?_eq_none h] at ht0
  have el := rl_elemv ⟨w.heap.size, 0, none⟩ t (((w.alloc (.cells #[.pointer (some t)] 127)).alloc (.cells #[.pointer (some ⟨13, 127, none⟩), .pointer (some ⟨w.heap.size, 0, none⟩), .int .u64 150] 166)).alloc (.cells #[.pointer (some ⟨13, 127, none⟩), .pointer (some ⟨w.heap.size, 0, none⟩), .int .u64 150] 166)) (by rw [World.cell?_alloc_lt _ _ ⟨w.heap.size, 0, none⟩ (by simp; omega)]; simp)
  have st := rl_set t ⟨w.heap.size + 1 + 1 + 1, 0, none⟩ k old ((((w.alloc (.cells #[.pointer (some t)] 127)).alloc (.cells #[.pointer (some ⟨13, 127, none⟩), .pointer (some ⟨w.heap.size, 0, none⟩), .int .u64 150] 166)).alloc (.cells #[.pointer (some ⟨13, 127, none⟩), .pointer (some ⟨w.heap.size, 0, none⟩), .int .u64 150] 166)).alloc (.cells #[.int .i64 k] 94))
    (by rw [World.cell?_alloc_at _ _ _ _ (by simp)]; rfl)
    (by rw [World.cell?_alloc_lt _ _ t (by simp; omega), World.cell?_alloc_lt _ _ t (by simp; omega), World.cell?_alloc_lt _ _ t (by simp; omega), World.cell?_alloc_lt _ _ t htl]; exact ht0)
    (by rw [World.frozen?_alloc_old _ _ t (by simp; omega), World.frozen?_alloc_old _ _ t (by simp; omega), World.frozen?_alloc_old _ _ t (by simp; omega), World.frozen?_alloc_old _ _ t (Nat.ne_of_lt htl)]; exact hf0)
  go_enter Tryz.func83, Tryz.ntmps83
  go_wp2
  refine wp_loop_rounds 1 ?_
  rw [rounds_succ]
  go_wp2
  go_ret
  exact ⟨rfl, rfl⟩
/-- An error is told by its number. -/
theorem told_nil (w : World) : Calls Tryz.prog 60 #[.nilIface] w fun e w' => e = .returned (.int .i64 0) ∧ Below w.heap.size w w' := by
  go_enter Tryz.func60, Tryz.ntmps60
  go_wp2
  go_ret
  exact ⟨rfl, (by repeat (first | exact Below.refl _ _ | refine balloc ?_ _ | refine Below.drew ?_ | refine below_drewN ?_ _ | refine below_set ?_ (by first | omega | (dsimp only; omega)) _))⟩
set_option maxHeartbeats 4000000 in
theorem told_err (k : Int) (w : World) (hE : ErrAt w) : Calls Tryz.prog 60 #[.iface 94 (.int .i64 k)] w fun e w' => e = .returned (.int .i64 k) ∧ Below w.heap.size w w' := by
  go_enter Tryz.func60, Tryz.ntmps60
  go_wp2_with fail
  refine (as_hit k ⟨w.heap.size, 0, none⟩ (.int .i64 0) _ (by rw [World.cell?_alloc_lt _ _ ⟨2, 0, none⟩ hE.2]; exact hE.1) (by simp; have := hE.2; omega) (by simp) (by simp)).mono ?_; rintro e w1 ⟨rfl, hw⟩
  have hc : w1.cell? ⟨w.heap.size, 0, none⟩ = some (.int .i64 k) := by
    rw [hw]; refine World.cell?_setCell_same (u := .int .i64 0) _ _ _ ?_
    rw [World.cell?_alloc_lt _ _ ⟨w.heap.size, 0, none⟩ (by simp; omega), World.cell?_alloc_lt _ _ ⟨w.heap.size, 0, none⟩ (by simp; omega), World.cell?_alloc_lt _ _ ⟨w.heap.size, 0, none⟩ (by simp; omega), World.cell?_alloc_lt _ _ ⟨w.heap.size, 0, none⟩ (by simp)]; simp
  have hb : Below w.heap.size w w1 := by
    rw [hw]; exact below_set (balloc (balloc (balloc (balloc (below_alloc _ _) _) _) _) _) (Nat.le_refl _) _
  have hz := hb.size
  have hl : w.heap.size < w1.heap.size := by rw [hw]; simp; omega
  clear hw
  go_wp2
  go_ret
  exact ⟨rfl, hb⟩
theorem error_nil (n : Int) (w : World) (b : Bool) (h : Hid (((0 : Int) == n) = b)) : Calls Tryz.prog 19 #[.nilIface, .int .i64 n] w fun e w' => e = .returned (.bool b) ∧ Below w.heap.size w w' := by
  go_enter Tryz.func19, Tryz.ntmps19
  go_wp2_with fail
  refine (told_nil _).mono ?_; rintro e w1 ⟨rfl, hb⟩
  have he := h.out
  go_wp2
  go_ret
  exact ⟨rfl, hb⟩
theorem error_err (k n : Int) (w : World) (hE : ErrAt w) (b : Bool) (h : Hid ((k == n) = b)) : Calls Tryz.prog 19 #[.iface 94 (.int .i64 k), .int .i64 n] w fun e w' => e = .returned (.bool b) ∧ Below w.heap.size w w' := by
  go_enter Tryz.func19, Tryz.ntmps19
  go_wp2_with fail
  refine (told_err k _ hE).mono ?_; rintro e w1 ⟨rfl, hb⟩
  have he := h.out
  go_wp2
  go_ret
  exact ⟨rfl, hb⟩
/-- An error's value, by its number; it is told as that number. -/
theorem error_same (E : Value) (n : Int) (w : World) (hE : ErrAt w) (h : Hid (E = errV n)) : Calls Tryz.prog 19 #[E, .int .i64 n] w fun e w' => e = .returned (.bool true) ∧ Below w.heap.size w w' := by
  rw [h.out]; unfold errV
  split
  · next e => rw [e]; exact error_nil 0 w true rfl
  · exact error_err n n w hE true (by show _ = _; simp)
end Go.Proofs.YtahgaccdeakmcaaGreatDoor
namespace Go.Proofs.YtahgaccdeakmcaaGreatDoor
open Go.RowKit
set_option maxRecDepth 100000
set_option linter.unusedVariables false
set_option linter.unusedSimpArgs false
theorem done_of (N : List Int) (G : List Bool) (d : Rec) (hG : G.length = N.length) (ok : RecOk d) (hN : N.length + d.M.length ≤ 1000) (hgood : ∀ i (h : i < d.G.length), gErrB G (d.G.take i) d.G[i] = 0) (x : Int) (hx : outN N d.G + d.M.sum = x) (hq : Sp.beq (sq (4 * hJ * (d.s : Int))) (sSum d.R (sq (4 * x * bAsk d.R (qS x)))) = true) : Done N G d := by
  have hgl : d.G.length = d.gl.length := List.length_map _
  have hml : (d.M.map qS).length = d.M.length := List.length_map _
  have hg1 := ok.g1
  refine ⟨ok, hN, fun B p vc vg a0 a1 c0 c1 w hF hv hB g0 g1 hli => ?_⟩
  have hex := fun (w1 : World) (hb : Below w.heap.size w w1) => bex_core N G B p d.G (d.M.map qS) a0 a1 c0 c1 d.G.length 0 .nilIface (.tuple #[spV (qS x), .nilIface]) w1 (hF.below hb) ⟨_, _, hv.below hb⟩ (by omega) (by omega) (by omega) g1
    (fun h => by obtain ⟨b, o, e, hs, -⟩ := hli.g h; exact ⟨b, o, e, hs.below hb⟩) (fun h => by obtain ⟨b, o, e, hs, -⟩ := hli.n h; exact ⟨b, o, e, hs.below hb⟩) (by have := ok.m; omega) (Nat.le_refl _) (fun i h _ => hgood i h) (fun h => absurd h (Nat.lt_irrefl _))
    (Lib.hid fun w2 hb2 => bcheck_core (d.M.map qS) (d.M.map qS).length .nilIface a1 c1 w2 ((hF.below hb).below hb2) (by have := ok.m; omega) (fun h => by obtain ⟨b, o, e, hs, -⟩ := hli.n h; exact ⟨b, o, e, (hs.below hb).below hb2⟩) (Lib.hid fun k h1 _ => ⟨_, List.getElem_map _⟩) (Nat.le_refl _) (Lib.hid fun h => absurd h (Nat.lt_irrefl _)) (Lib.hid fun h => absurd h (Nat.lt_irrefl _)) (Lib.hid fun _ => rfl))
    (Lib.hid fun h => absurd h (Nat.lt_irrefl _)) (Lib.hid fun _ => .inr ⟨rfl, d.M, rfl, by rw [hx]⟩)
  rw [hgl, hml] at hex
  have h := bdo_y N d.M G B p vc vg d.G [] a0 a1 c0 c1 d.R (d.s : Int) (qS x) x w hF hv hB (by omega) (Lib.hid rfl) (by omega) hli.g hli.n (fun g hg => by
    obtain ⟨i, hi, rfl⟩ := List.getElem_of_mem hg
    have := gErrB_0 (hgood i hi)
    omega) (Lib.hid (by rw [hgl]; exact hex)) hN (Int.natCast_nonneg _) (by have := ok.s1; omega) ok.o (Lib.hid hq)
  rw [hgl] at h
  exact h
theorem stG_len (M0 : List Int) (ds : List Rec) : (stG M0 ds).length = (stN M0 ds).length := by
  suffices H : ∀ (ds : List Rec) (N : List Int) (G : List Bool), G.length = N.length → (ds.foldl stepG G).length = (ds.foldl (fun N d => N ++ d.M) N).length from H ds M0 _ List.length_replicate
  intro ds
  induction ds with
  | nil => intro N G h; exact h
  | cons d ds ih =>
    intro N G h
    refine ih _ _ ?_
    unfold stepG
    rw [List.length_append, goneL_len, List.length_replicate, List.length_append, h]
theorem DoneAll.bound {M0 : List Int} {ds : List Rec} (h : DoneAll M0 ds) (hM : M0.length ≤ 12) : (stN M0 ds).length ≤ 1000 := by
  rcases List.eq_nil_or_concat ds with rfl | ⟨L, d, rfl⟩
  · show M0.length ≤ 1000; omega
  · rw [List.concat_eq_append] at h ⊢
    have := (h L.length (by simp)).hN
    rw [List.take_left, List.getElem_append_right (Nat.le_refl _)] at this
    simp at this
    rw [stN_snoc, List.length_append]
    exact this
theorem error_e (E n : Int) (b : Bool) (w : World) (hE : ErrAt w) (h : Hid ((E == n) = b)) : Calls Tryz.prog 19 #[errV E, .int .i64 n] w fun e w' => e = .returned (.bool b) ∧ Below w.heap.size w w' := by
  by_cases h0 : E = 0
  · subst h0; exact error_nil n w b h
  · rw [errVB_ne h0]; exact error_err E n w hE b h
/-- The deal of nothing. -/
def d0 (P : Sp) : Rec := ⟨[], [], P, 1⟩
theorem d0_ok {P : Sp} (oP : Ok P) : RecOk (d0 P) := ⟨Nat.zero_le _, fun g h => absurd h List.not_mem_nil, Nat.zero_le _, oP, by show 1 < 1013; decide⟩
theorem d0_done {P : Sp} (hP : sq (4 * hJ * 1) = P) (N : List Int) (G : List Bool) (hG : G.length = N.length) (hN : N.length ≤ 1000) : Done N G (d0 P) := by
  have hq : Sp.beq (sq (4 * hJ * 1)) (sSum P (sq (4 * 0 * bAsk P (qS 0)))) = true := by
    have := close_ok 1 (bAsk P (qS 0)) 0 0 (by decide)
    rw [hP] at this
    rw [show (1 + bAsk P (qS 0) * ((0 : Int) % 1013)) % 1013 = 1 by rw [show (0 : Int) % 1013 = 0 from rfl, Int.mul_zero]; rfl, hP] at this
    rw [hP]; exact this
  exact done_of N G (d0 P) hG (d0_ok (by rw [← hP]; exact sq_ok _)) (by simpa [d0] using hN) (fun i h => absurd h (Nat.not_lt_zero _)) 0 rfl hq
end Go.Proofs.YtahgaccdeakmcaaGreatDoor
namespace Go.Proofs.YtahgaccdeakmcaaGreatDoor
open Go.RowKit
set_option maxRecDepth 100000
set_option linter.unusedVariables false
set_option linter.unusedSimpArgs false
/-- A seal that lies in a block. -/
structure SeAt (w : World) (b : Nat) (s : Sp) (z : Int) : Prop where
  c0 : w.cell? ⟨b, 0, none⟩ = some (.int .i64 s.x)
  c1 : w.cell? ⟨b, 1, none⟩ = some (.int .i64 s.y)
  c2 : w.cell? ⟨b, 2, none⟩ = some (.bool s.far)
  c3 : w.cell? ⟨b, 3, none⟩ = some (.int .i64 z)
  f0 : w.frozen? ⟨b, 0, none⟩ = false
  f1 : w.frozen? ⟨b, 1, none⟩ = false
  f2 : w.frozen? ⟨b, 2, none⟩ = false
  f3 : w.frozen? ⟨b, 3, none⟩ = false
  lt : b < w.heap.size
theorem SeAt.below {w w' : World} {b : Nat} {s : Sp} {z : Int} (h : SeAt w b s z) (hb : Below w.heap.size w w') : SeAt w' b s z :=
  ⟨((bcell hb).1 _ _ h.lt).trans h.c0, ((bcell hb).1 _ _ h.lt).trans h.c1, ((bcell hb).1 _ _ h.lt).trans h.c2, ((bcell hb).1 _ _ h.lt).trans h.c3, ((bcell hb).2 _ _ h.lt).trans h.f0, ((bcell hb).2 _ _ h.lt).trans h.f1, ((bcell hb).2 _ _ h.lt).trans h.f2, ((bcell hb).2 _ _ h.lt).trans h.f3, Nat.lt_of_lt_of_le h.lt hb.size⟩
theorem SeAt.fresh (w : World) (x y : Int) (f : Bool) (z : Int) (t : TypeId) : SeAt (w.alloc (.cells #[.int .i64 x, .int .i64 y, .bool f, .int .i64 z] t)) w.heap.size ⟨x, y, f⟩ z := ⟨by simp, by simp, by simp, by simp, by simp, by simp, by simp, by simp, by simp⟩
theorem SeAt.drew {w : World} {b : Nat} {s : Sp} {z : Int} (h : SeAt w b s z) : SeAt w.drew b s z := ⟨h.c0, h.c1, h.c2, h.c3, h.f0, h.f1, h.f2, h.f3, h.lt⟩
theorem SeAt.alloc {w : World} {b : Nat} {s : Sp} {z : Int} (h : SeAt w b s z) (o : Obj) : SeAt (w.alloc o) b s z := h.below (below_alloc w o)
theorem SeAt.set4 {w : World} {b : Nat} {s : Sp} {z : Int} (h : SeAt w b s z) (v : Sp) (y : Int) : SeAt ((((w.setCell ⟨b, 0, none⟩ (.int .i64 v.x)).setCell ⟨b, 1, none⟩ (.int .i64 v.y)).setCell ⟨b, 2, none⟩ (.bool v.far)).setCell ⟨b, 3, none⟩ (.int .i64 y)) b v y := by
  obtain ⟨h0, h1, h2, h3, f0, f1, f2, f3, hl⟩ := h
  have k := set4_cell (x := .int .i64 v.x) (y := .int .i64 v.y) (z := .bool v.far) (p := .int .i64 y) h0 h1 h2 h3
  exact ⟨k.1, k.2.1, k.2.2.1, k.2.2.2, by simpa using f0, by simpa using f1, by simpa using f2, by simpa using f3, by simpa [World.setCell] using hl⟩
theorem SeAt.zero_of {w : World} {b : Nat} (h0 : w.cell? ⟨b, 0, none⟩ = some (.int .i64 0)) (h1 : w.cell? ⟨b, 1, none⟩ = some (.int .i64 0)) (h2 : w.cell? ⟨b, 2, none⟩ = some (.bool false)) (h3 : w.cell? ⟨b, 3, none⟩ = some (.int .i64 0)) (f0 : w.frozen? ⟨b, 0, none⟩ = false) (f1 : w.frozen? ⟨b, 1, none⟩ = false) (f2 : w.frozen? ⟨b, 2, none⟩ = false) (f3 : w.frozen? ⟨b, 3, none⟩ = false) (hl : b < w.heap.size) : SeAt w b ⟨0, 0, false⟩ 0 := ⟨h0, h1, h2, h3, f0, f1, f2, f3, hl⟩
theorem nocoin0 : NoCoin ⟨0, 0, false⟩ := by
  rcases coin_is ⟨0, 0, false⟩ with ⟨n, h⟩ | h
  · exfalso
    have h2 : sSum ⟨0, 0, false⟩ ⟨0, 0, false⟩ = ⟨0, 0, true⟩ := by rfl
    rw [h, qS_add] at h2
    have h3 : (qS (n + n)).far = true := by rw [h2]
    unfold qS at h3 h
    have h4 := sq_far.mp h3
    have h5 : (sq (4 * n)).far = true := sq_far.mpr (by omega)
    rw [← h] at h5
    exact Bool.noConfusion h5
  · exact h
/-- What is no spot makes no book. -/
theorem bnew_zero (v : Value) (w : World) (hF : FarAt w) (hv : SpSl w v [⟨0, 0, false⟩]) : Calls Tryz.prog 35 #[v] w fun e w' => e = .returned (.tuple #[.pointer none, .iface 94 (.int .i64 3)]) ∧ Below w.heap.size w w' := by
  obtain ⟨a, c, rfl, h⟩ := hv
  exact bnew_n 1 (.iface 94 (.int .i64 3)) a c w ⟨3, rfl⟩ (bcheck_core [⟨0, 0, false⟩] 0 _ a c w hF (by decide) h (Lib.hid fun k _ h => absurd h (Nat.not_lt_zero _)) (by decide) (Lib.hid fun _ => nocoin0) (Lib.hid fun _ => rfl) (Lib.hid fun h => absurd h (by decide)))
theorem bnew_one (n : Int) (A : Sp) (v : Value) (w : World) (hF : FarAt w) (hA : Hid (A = qS n)) (hv : SpSl w v [A]) : Calls Tryz.prog 35 #[v] w fun e w' => ∃ p, e = .returned (.tuple #[.pointer (some ⟨p, 0, none⟩), .nilIface]) ∧ BkAt w' w.heap.size p [n] [false] ∧ Below w.heap.size w w' := by
  rw [hA.out] at hv
  obtain ⟨a, c, rfl, h⟩ := hv
  exact bnew_y [n] a c w (by simp) hF h
theorem bcheck_one (y : Int) (TO : Sp) (b1 : Nat) (w : World) (hF : FarAt w) (hT : Hid (TO = qS y)) (h1 : SpotsAt w b1 0 [TO]) : Calls Tryz.prog 75 #[.slice (some ⟨b1, 0, none⟩) 1 1] w fun e w' => e = .returned .nilIface ∧ Below w.heap.size w w' :=
  bcheck_core [TO] 1 .nilIface _ 1 w hF (by simp) (fun _ => ⟨_, _, rfl, h1⟩) (Lib.hid fun k h _ => ⟨y, by obtain rfl : k = 0 := (by simp at h; omega); exact hT.out⟩) (by simp) (Lib.hid fun h => absurd h (by simp)) (Lib.hid fun h => absurd h (by simp)) (Lib.hid fun _ => rfl)
theorem bcheck_nil (w : World) (hF : FarAt w) : Calls Tryz.prog 75 #[.slice none 0 0] w fun e w' => e = .returned .nilIface ∧ Below w.heap.size w w' :=
  bcheck_core [] 0 .nilIface _ 0 w hF (by simp) (fun h => absurd h (by simp)) (Lib.hid fun k h _ => absurd h (Nat.not_lt_zero _)) (by simp) (Lib.hid fun h => absurd h (by simp)) (Lib.hid fun h => absurd h (by simp)) (Lib.hid fun _ => rfl)
theorem gErr_ok {G : List Bool} {n : Nat} (h : n < G.length) (hg : G.getD n true = false) : gErrB G [] (n : Int) = 0 := by
  unfold gErrB
  rw [if_neg (by omega), if_neg (by rw [Int.toNat_natCast, hg]; simp), if_neg (by simp)]
theorem gErr_gone {G : List Bool} {n : Nat} (h : n < G.length) (hg : G.getD n true = true) : gErrB G [] (n : Int) = 6 := by
  unfold gErrB
  rw [if_neg (by omega), if_pos (by rw [Int.toNat_natCast, hg])]
theorem bex_one (N : List Int) (G : List Bool) (B p n b0 b1 : Nat) (x y : Int) (TO X : Sp) (w : World) (hF : FarAt w) (hBk : BkAt w B p N G) (hNl : N.length ≤ 1000) (hl : n < G.length) (hg : Hid (G.getD n true = false)) (hx : Hid (N.getD n 0 = x)) (hT : Hid (TO = qS y)) (hX : Hid (qS (-x + y) = X)) (h0 : IntsAt w b0 0 [(n : Int)]) (h1 : SpotsAt w b1 0 [TO]) :
    Calls Tryz.prog 36 #[.pointer (some ⟨p, 0, none⟩), .slice (some ⟨b0, 0, none⟩) 1 1, .slice (some ⟨b1, 0, none⟩) 1 1] w fun e w' => e = .returned (.tuple #[spV X, .nilIface]) ∧ Below w.heap.size w w' := by
  refine bex_core N G B p [(n : Int)] [TO] _ _ 1 1 1 0 .nilIface _ w hF hBk (by omega) (by simp) (Nat.le_refl _) (by simp) (fun _ => ⟨_, _, rfl, h0⟩) (fun _ => ⟨_, _, rfl, h1⟩) (by simp) (Nat.le_refl _) (fun i h _ => ?_) (fun h => absurd h (Nat.lt_irrefl _)) (Lib.hid fun w1 hb => bcheck_one y TO b1 w1 (hF.below hb) hT (h1.below hb)) (Lib.hid fun h => absurd h (Nat.lt_irrefl _)) (Lib.hid fun _ => .inr ⟨rfl, [y], by rw [hT.out]; rfl, ?_⟩)
  · obtain rfl : i = 0 := by simp at h; omega
    exact gErr_ok hl hg.out
  · have : outN N [(n : Int)] + [y].sum = -x + y := by unfold outN; simp only [List.map_cons, List.map_nil, Int.toNat_natCast, hx.out, List.sum_cons, List.sum_nil]; omega
    rw [this, hX.out]
theorem bex_gone (N : List Int) (G : List Bool) (B p n b0 : Nat) (w : World) (hF : FarAt w) (hBk : BkAt w B p N G) (hNl : N.length ≤ 1000) (hl : n < G.length) (hg : Hid (G.getD n true = true)) (h0 : IntsAt w b0 0 [(n : Int)]) :
    Calls Tryz.prog 36 #[.pointer (some ⟨p, 0, none⟩), .slice (some ⟨b0, 0, none⟩) 1 1, .slice none 0 0] w fun e w' => e = .returned (.tuple #[spV ⟨0, 0, false⟩, .iface 94 (.int .i64 6)]) ∧ Below w.heap.size w w' :=
  bex_core N G B p [(n : Int)] [] _ _ 1 0 0 6 .nilIface _ w hF hBk (by omega) (by simp) (Nat.le_refl _) (by simp) (fun _ => ⟨_, _, rfl, h0⟩) (fun h => absurd h (by simp)) (by simp) (by simp) (fun i _ h => absurd h (Nat.not_lt_zero _)) (fun h => ⟨gErr_gone hl hg.out, by decide⟩) (Lib.hid fun w1 hb => bcheck_nil w1 (hF.below hb)) (Lib.hid fun _ => rfl) (Lib.hid fun h => absurd h (by simp))
theorem bdo_one (N : List Int) (G : List Bool) (B p n b0 b1 : Nat) (vc vg : Value) (x y : Int) (TO X RS : Sp) (s : Int) (w : World) (hF : FarAt w) (hBk : BkV w B p vc vg N G) (hB0 : B ≤ w.heap.size) (hNl : N.length ≤ 900) (hl : n < G.length) (hg : Hid (G.getD n true = false)) (hx : Hid (N.getD n 0 = x)) (hT : Hid (TO = qS y)) (hX : Hid (qS (-x + y) = X)) (h0 : IntsAt w b0 0 [(n : Int)]) (h1 : SpotsAt w b1 0 [TO]) (hn0 : ¬ inB p vc vg b0) (hn1 : ¬ inB p vc vg b1)
    (s0 : 0 ≤ s) (s1 : s < 1013) (oR : Ok RS) (hq : Hid (Sp.beq (sq (4 * hJ * s)) (sSum RS (sq (4 * (-x + y) * bAsk RS X))) = true)) :
    Calls Tryz.prog 38 #[.pointer (some ⟨p, 0, none⟩), dlV (.slice (some ⟨b0, 0, none⟩) 1 1) (.slice (some ⟨b1, 0, none⟩) 1 1) RS s] w fun e w' => e = .returned .nilIface ∧ Did w w' B p vc vg (N ++ [y]) (G.set n true ++ [false]) := by
  have := hBk.ln
  have h1' : SpotsAt w b1 0 ([y].map qS) := by rw [hT.out] at h1; exact h1
  have hb := bdo_y N [y] G B p vc vg [(n : Int)] [TO] (some ⟨b0, 0, none⟩) (some ⟨b1, 0, none⟩) 1 1 RS s X (-x + y) w hF hBk hB0 (by omega) (Lib.hid hX.out.symm) (by simp) (fun _ => ⟨_, _, rfl, h0, hn0⟩) (fun _ => ⟨_, _, rfl, h1', hn1⟩)
    (fun g hg => by rw [List.mem_singleton] at hg; omega) (Lib.hid fun w1 hb => bex_one N G B p n b0 b1 x y TO X w1 (hF.below hb) ⟨_, _, hBk.below hb⟩ (by omega) hl hg hx hT hX (h0.below hb) (h1.below hb)) (by simp; omega) s0 s1 oR hq
  exact hb
theorem blive_one (N : List Int) (G : List Bool) (B p m : Nat) (w : World) (hBk : BkAt w B p N G) (hN : N.length ≤ 1000) (hm : Hid (liveN G N.length = [(m : Int)])) :
    Calls Tryz.prog 70 #[.pointer (some ⟨p, 0, none⟩)] w fun e w' => ∃ b off cap, e = .returned (.slice (some ⟨b, off, none⟩) 1 cap) ∧ w'.cell? ⟨b, off, none⟩ = some (.int .i64 m) ∧ b < w'.heap.size ∧ Below w.heap.size w w' := by
  refine (blive_c N G B p w hBk (by omega)).mono ?_
  rintro e w' ⟨v, rfl, ho, hb⟩
  rw [hm.out] at ho
  obtain ⟨a, cap, rfl, h'⟩ := own_ints ho rfl
  obtain ⟨b, off, rfl, h''⟩ := h' (by simp)
  exact ⟨b, off, cap, rfl, h''.c 0 (by simp), h''.lt, hb⟩
end Go.Proofs.YtahgaccdeakmcaaGreatDoor
