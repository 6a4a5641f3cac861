/- Texts of this claim, in one. -/
import Derived.Test.YtjjmelhhalomaaaGreatDoorWb
import Derived.Test.YtjjmelhhalomaaaGreatDoorWv
import Derived.LaidEql
import Derived.Stop.Asserts
import Derived.RowKitTokens
import Derived.Lib.Fields
import Derived.Lib.AtoiTie
import Derived.Lib.ItoaNum
import Derived.Lib.ItoaLen
import Derived.Lib.ItoaMem
import Derived.Lib.LastIndexLaws
import Derived.Test.YtjjmelhhalomaaaGreatDoorOw
import Derived.Test.YtjjmelhhalomaaaGreatDoorBkz
import Derived.Test.YtjjmelhhalomaaaGreatDoorSf
import Derived.Test.YtjjmelhhalomaaaGreatDoorSe
import Derived.Deep.DeepCutAuto
import Derived.Test.YtjjmelhhalomaaaGreatDoorEq
import Derived.Test.YtjjmelhhalomaaaGreatDoorKe
import Derived.Deep.RegionWith
import Derived.Test.YtjjmelhhalomaaaGreatDoorHa
import Derived.Test.YtjjmelhhalomaaaGreatDoorRb
import Derived.Test.YtjjmelhhalomaaaGreatDoorWs
import Derived.Laws.Entries
import Derived.Test.YtjjmelhhalomaaaGreatDoorWl
import Derived.Test.YtjjmelhhalomaaaGreatDoorLf
import Derived.Test.YtjjmelhhalomaaaGreatDoorSlf
import Derived.Test.YtjjmelhhalomaaaGreatDoorWh
import Derived.Lib.AppendIntMem
import Derived.Lib.SmallJoins
import Derived.Deep.DrawnRows
import Derived.BigQuiet
import Derived.Test.YtjjmelhhalomaaaGreatDoorSlr
import Derived.Lib.ConvBytes
namespace Go.Proofs.YtjjmelhhalomaaaGreatDoor
open Go.RowKit Go.Extern.Stop Go.Stop Go.Extern
set_option maxRecDepth 100000
set_option linter.unusedVariables false
set_option linter.unusedSimpArgs false
/-- The variable errors.errorType reads as laid. -/
def ErrAt (w : World) : Prop := w.cell? ⟨2, 0, none⟩ = some (.iface 184 (.agg #[.pointer (some ⟨13, 30, none⟩)])) ∧ 2 < w.heap.size
theorem ErrAt.below {w w' : World} (h : ErrAt w) (hb : Below w.heap.size w w') : ErrAt w' := ⟨((bcell hb).1 _ _ h.2).trans h.1, Nat.lt_of_lt_of_le h.2 hb.size⟩
/-! The model's entries for reflectlite, at this program's types. -/
theorem rl_value (t : Addr) (w : World) : (ReflectliteValue.unpack (.iface 107 (.pointer (some t)))).run Tryz.prog w
    = .ok (.agg #[.pointer (some ⟨13, 107, none⟩), .pointer (some ⟨w.heap.size, 0, none⟩), .int .u64 150]) (w.alloc (.cells #[.pointer (some t)] 107)) := by kernel_rfl
theorem rl_type (a : Addr) (w : World) : (ReflectliteValue.methodAny (ReflectliteValue.valueError "reflectlite.Value.Type" 0) (fun t _ _ _ => ReflectliteType.toType t) #[.agg #[.pointer (some ⟨13, 107, none⟩), .pointer (some a), .int .u64 150]]).run Tryz.prog w
    = .ok (.iface 184 (.agg #[.pointer (some ⟨13, 107, none⟩)])) w := by kernel_rfl
theorem rl_kindm (h : Value) (w : World) : (Go.method 384 184 (.agg #[h]) "Kind").run Tryz.prog w = .ok (224, h) w := by kernel_rfl
theorem rl_kind (w : World) : ((ReflectliteType.abiMethod fun t => Functor.map (fun a : Nat => Value.int IntKind.u8 (a : Int)) (Rtype.kind t)) #[.pointer (some ⟨13, 107, none⟩)]).run Tryz.prog w = .ok (.int .u8 22) w := by kernel_rfl
theorem rl_kinde (w : World) : ((ReflectliteType.abiMethod fun t => Functor.map (fun a : Nat => Value.int IntKind.u8 (a : Int)) (Rtype.kind t)) #[.pointer (some ⟨13, 84, none⟩)]).run Tryz.prog w = .ok (.int .u8 2) w := by kernel_rfl
theorem rl_m (z : Sem Value) (f : TypeId → Addr → Nat → Nat → Sem Value) (v : Value) :
    ReflectliteValue.method z f #[v] = (do match ← ReflectliteValue.parts v with | none => z | some (t, a, fl) => f t a fl (fl % 32)) := rfl
theorem rl_parts (a : Addr) (w : World) : (ReflectliteValue.parts (.agg #[.pointer (some ⟨13, 107, none⟩), .pointer (some a), .int .u64 150])).run Tryz.prog w = .ok (some (107, a, 150)) w := by kernel_rfl
theorem rl_nil (a p : Addr) (W : World) (ha : W.cell? a = some (.pointer (some p))) :
    (ReflectliteValue.method (ReflectliteValue.valueError "reflectlite.Value.IsNil" 0) ReflectliteValue.isNil #[.agg #[.pointer (some ⟨13, 107, none⟩), .pointer (some a), .int .u64 150]]).run Tryz.prog W = .ok (.bool false) W := by
  rw [rl_m]
  simp only [Sem.run_bind, rl_parts, Result.andThen]
  simp [ReflectliteValue.isNil, loadVar, isAgg, underlying, Tryz.underlying107, ha, Result.andThen]
theorem rl_elemm (h : Value) (w : World) : (Go.method 384 184 (.agg #[h]) "Elem").run Tryz.prog w = .ok (236, .agg #[h]) w := by kernel_rfl
theorem rl_implm (h : Value) (w : World) : (Go.method 384 184 (.agg #[h]) "Implements").run Tryz.prog w = .ok (237, .agg #[h]) w := by kernel_rfl
theorem rl_assm (h : Value) (w : World) : (Go.method 384 184 (.agg #[h]) "AssignableTo").run Tryz.prog w = .ok (234, .agg #[h]) w := by kernel_rfl
theorem rl_elem (w : World) : (ReflectliteType.method ReflectliteType.elem #[.agg #[.pointer (some ⟨13, 107, none⟩)]]).run Tryz.prog w = .ok (.iface 184 (.agg #[.pointer (some ⟨13, 84, none⟩)])) w := by kernel_rfl
theorem rl_impl (w : World) : (ReflectliteType.relation "Implements" ReflectliteType.implements_ #[.agg #[.pointer (some ⟨13, 84, none⟩)], .iface 184 (.agg #[.pointer (some ⟨13, 30, none⟩)])]).run Tryz.prog w = .ok (.bool true) w := by kernel_rfl
theorem rl_typeof (v : Value) (w : World) : (ReflectliteType.typeOf #[.iface 84 v]).run Tryz.prog w = .ok (.iface 184 (.agg #[.pointer (some ⟨13, 84, none⟩)])) w := by kernel_rfl
theorem rl_ass (w : World) : (ReflectliteType.relation "AssignableTo" ReflectliteType.assignableTo #[.agg #[.pointer (some ⟨13, 84, none⟩)], .iface 184 (.agg #[.pointer (some ⟨13, 84, none⟩)])]).run Tryz.prog w = .ok (.bool true) w := by kernel_rfl
theorem rl_valuee (k : Int) (w : World) : (ReflectliteValue.unpack (.iface 84 (.int .i64 k))).run Tryz.prog w
    = .ok (.agg #[.pointer (some ⟨13, 84, none⟩), .pointer (some ⟨w.heap.size, 0, none⟩), .int .u64 130]) (w.alloc (.cells #[.int .i64 k] 84)) := by kernel_rfl
theorem rl_elemof (w : World) : (Rtype.elem? 107).run Tryz.prog w = .ok (some 84) w := by kernel_rfl
theorem rl_mk (p : Addr) (w : World) : (ReflectliteValue.mk 84 p ReflectliteValue.flagAddr).run Tryz.prog w = .ok (.agg #[.pointer (some ⟨13, 84, none⟩), .pointer (some p), .int .u64 386]) w := by kernel_rfl
theorem rl_elemv (a p : Addr) (W : World) (ha : W.cell? a = some (.pointer (some p))) :
    (ReflectliteValue.method (ReflectliteValue.valueError "reflectlite.Value.Elem" 0) ReflectliteValue.elem #[.agg #[.pointer (some ⟨13, 107, none⟩), .pointer (some a), .int .u64 150]]).run Tryz.prog W
      = .ok (.agg #[.pointer (some ⟨13, 84, none⟩), .pointer (some p), .int .u64 386]) W := by
  rw [rl_m]
  simp only [Sem.run_bind, rl_parts, Result.andThen]
  simp [ReflectliteValue.elem, loadVar, isAgg, underlying, Tryz.underlying107, ha, Result.andThen, rl_elemof, rl_mk]
theorem rl_s (v x : Value) : ReflectliteValue.set #[v, x] = (do
    let (some (dst, a, fl), some (src, b, _)) := (← ReflectliteValue.parts v, ← ReflectliteValue.parts x)
      | unsupported (.noEntry "extern/(internal/reflectlite.Value).Set.zeroValue")
    if fl / ReflectliteValue.flagAddr % 2 == 0 then unsupported (.noEntry "extern/(internal/reflectlite.Value).Set.unaddressable")
    let val ← loadVar src b
    if ← Rtype.directlyAssignable dst src then storeVar dst a val
    else if ← Rtype.implements dst src then
      if (← Rtype.kind src) == 20 then
        match val with
        | .nilIface => unsupported (.noEntry "extern/reflectlite: a nil value of one interface type handed on as a value of another")
        | _ => storeVar dst a val
      else storeVar dst a (.iface src val)
    else panicString ("reflectlite.Set: value of type " ++ (← Rtype.spelt src) ++ " is not assignable to type " ++ (← Rtype.spelt dst))
    pure (.tuple #[])) := rfl
theorem rl_partsa (a : Addr) (w : World) : (ReflectliteValue.parts (.agg #[.pointer (some ⟨13, 84, none⟩), .pointer (some a), .int .u64 386])).run Tryz.prog w = .ok (some (84, a, 386)) w := by kernel_rfl
theorem rl_partse (a : Addr) (w : World) : (ReflectliteValue.parts (.agg #[.pointer (some ⟨13, 84, none⟩), .pointer (some a), .int .u64 130])).run Tryz.prog w = .ok (some (84, a, 130)) w := by kernel_rfl
theorem rl_direct (w : World) : (Rtype.directlyAssignable 84 84).run Tryz.prog w = .ok true w := by kernel_rfl
theorem rl_set (ta b : Addr) (k : Int) (old : Value) (W : World) (hb : W.cell? b = some (.int .i64 k)) (ht : W.cell? ta = some old) (hf : W.frozen? ta = false) :
    (ReflectliteValue.set #[.agg #[.pointer (some ⟨13, 84, none⟩), .pointer (some ta), .int .u64 386], .agg #[.pointer (some ⟨13, 84, none⟩), .pointer (some b), .int .u64 130]]).run Tryz.prog W
      = .ok (.tuple #[]) (W.setCell ta (.int .i64 k)) := by
  rw [rl_s]
  simp only [Sem.run_bind, rl_partsa, rl_partse, Result.andThen]
  simp [ReflectliteValue.flagAddr, loadVar, isAgg, underlying, Tryz.underlying84, hb, Result.andThen, rl_direct, storeVar, Value.cells, storeCells, Addr.add]
  rw [run_store Tryz.prog W ta _ _ (by rfl)]
  simp [ht, hf]
set_option maxHeartbeats 4000000 in
theorem as_hit (k : Int) (t : Addr) (old : Value) (w : World) (hg : w.cell? ⟨2, 0, none⟩ = some (.iface 184 (.agg #[.pointer (some ⟨13, 30, none⟩)]))) (hgl : 2 < w.heap.size) (ht0 : w.cell? t = some old) (hf0 : w.frozen? t = false) :
    Calls Tryz.prog 61 #[.iface 84 (.int .i64 k), .iface 107 (.pointer (some t))] w fun ev w' => ev = .returned (.bool true) ∧ w' = ((((w.alloc (.cells #[.pointer (some t)] 107)).alloc (.cells #[.pointer (some ⟨13, 107, none⟩), .pointer (some ⟨w.heap.size, 0, none⟩), .int .u64 150] 146)).alloc (.cells #[.pointer (some ⟨13, 107, none⟩), .pointer (some ⟨w.heap.size, 0, none⟩), .int .u64 150] 146)).alloc (.cells #[.int .i64 k] 84)).setCell t (.int .i64 k) := by
  have h6 := @run_callFunc_extern Tryz.prog 107 _ (fun args => ReflectliteValue.unpack (args.getD 0 (.tuple #[]))) Tryz.func107 (by kernel_rfl) (by kernel_rfl) (by kernel_rfl) (by kernel_rfl)
  have h7 := @run_callFunc_extern Tryz.prog 108 _ (ReflectliteValue.methodAny (ReflectliteValue.valueError "reflectlite.Value.Type" 0) (fun t _ _ _ => ReflectliteType.toType t)) Tryz.func108 (by kernel_rfl) (by kernel_rfl) (by kernel_rfl) (by kernel_rfl)
  have h8 := @run_callFunc_extern Tryz.prog 109 _ (ReflectliteValue.method (ReflectliteValue.valueError "reflectlite.Value.IsNil" 0) ReflectliteValue.isNil) Tryz.func109 (by kernel_rfl) (by kernel_rfl) (by kernel_rfl) (by kernel_rfl)
  have h27 := @run_callFunc_extern Tryz.prog 224 _ (ReflectliteType.abiMethod fun t => do pure (.int .u8 (← Rtype.kind t))) Tryz.func224 (by kernel_rfl) (by kernel_rfl) (by kernel_rfl) (by kernel_rfl)
  have h37 := @run_callFunc_extern Tryz.prog 236 _ (ReflectliteType.method ReflectliteType.elem) Tryz.func236 (by kernel_rfl) (by kernel_rfl) (by kernel_rfl) (by kernel_rfl)
  have h38 := @run_callFunc_extern Tryz.prog 237 _ (ReflectliteType.relation "Implements" ReflectliteType.implements_) Tryz.func237 (by kernel_rfl) (by kernel_rfl) (by kernel_rfl) (by kernel_rfl)
  have h10 := @run_callFunc_extern Tryz.prog 152 _ (ReflectliteType.typeOf) Tryz.func152 (by kernel_rfl) (by kernel_rfl) (by kernel_rfl) (by kernel_rfl)
  have h35 := @run_callFunc_extern Tryz.prog 234 _ (ReflectliteType.relation "AssignableTo" ReflectliteType.assignableTo) Tryz.func234 (by kernel_rfl) (by kernel_rfl) (by kernel_rfl) (by kernel_rfl)
  have h11 := @run_callFunc_extern Tryz.prog 153 _ (ReflectliteValue.method (ReflectliteValue.valueError "reflectlite.Value.Elem" 0) ReflectliteValue.elem) Tryz.func153 (by kernel_rfl) (by kernel_rfl) (by kernel_rfl) (by kernel_rfl)
  have h12 := @run_callFunc_extern Tryz.prog 154 _ (ReflectliteValue.set) Tryz.func154 (by kernel_rfl) (by kernel_rfl) (by kernel_rfl) (by kernel_rfl)
  have tO := rl_typeof
  have mA := rl_assm
  have a25 := rl_ass
  have v25 := rl_valuee
  have f6 := rl_value
  have f7 := rl_type
  have mK := rl_kindm
  have mE := rl_elemm
  have mI := rl_implm
  have k27 := rl_kind
  have k25 := rl_kinde
  have e27 := rl_elem
  have i25 := rl_impl
  have n8 := rl_nil ⟨w.heap.size, 0, none⟩ t ((w.alloc (.cells #[.pointer (some t)] 107)).alloc (.cells #[.pointer (some ⟨13, 107, none⟩), .pointer (some ⟨w.heap.size, 0, none⟩), .int .u64 150] 146)) (by simp)
  have hg2 : ((w.alloc (.cells #[.pointer (some t)] 107)).alloc (.cells #[.pointer (some ⟨13, 107, none⟩), .pointer (some ⟨w.heap.size, 0, none⟩), .int .u64 150] 146)).cell? ⟨2, 0, none⟩ = some (.iface 184 (.agg #[.pointer (some ⟨13, 30, none⟩)])) := by
    rw [World.cell?_alloc_lt _ _ ⟨2, 0, none⟩ (by simp; omega), World.cell?_alloc_lt _ _ ⟨2, 0, none⟩ hgl]; exact hg
  have htl : t.block < w.heap.size := by
    rcases Nat.lt_or_ge t.block w.heap.size with h | h
    · exact h
    · simp [World.cell?, Array.getElem?_eq_none h] at ht0
  have el := rl_elemv ⟨w.heap.size, 0, none⟩ t (((w.alloc (.cells #[.pointer (some t)] 107)).alloc (.cells #[.pointer (some ⟨13, 107, none⟩), .pointer (some ⟨w.heap.size, 0, none⟩), .int .u64 150] 146)).alloc (.cells #[.pointer (some ⟨13, 107, none⟩), .pointer (some ⟨w.heap.size, 0, none⟩), .int .u64 150] 146)) (by rw [World.cell?_alloc_lt _ _ ⟨w.heap.size, 0, none⟩ (by simp; omega)]; simp)
  have st := rl_set t ⟨w.heap.size + 1 + 1 + 1, 0, none⟩ k old ((((w.alloc (.cells #[.pointer (some t)] 107)).alloc (.cells #[.pointer (some ⟨13, 107, none⟩), .pointer (some ⟨w.heap.size, 0, none⟩), .int .u64 150] 146)).alloc (.cells #[.pointer (some ⟨13, 107, none⟩), .pointer (some ⟨w.heap.size, 0, none⟩), .int .u64 150] 146)).alloc (.cells #[.int .i64 k] 84))
    (by rw [World.cell?_alloc_at _ _ _ _ (by simp)]; rfl)
    (by rw [World.cell?_alloc_lt _ _ t (by simp; omega), World.cell?_alloc_lt _ _ t (by simp; omega), World.cell?_alloc_lt _ _ t (by simp; omega), World.cell?_alloc_lt _ _ t htl]; exact ht0)
    (by rw [World.frozen?_alloc_old _ _ t (by simp; omega), World.frozen?_alloc_old _ _ t (by simp; omega), World.frozen?_alloc_old _ _ t (by simp; omega), World.frozen?_alloc_old _ _ t (Nat.ne_of_lt htl)]; exact hf0)
  go_enter Tryz.func61, Tryz.ntmps61
  go_wp2
  refine wp_loop_rounds 1 ?_
  rw [rounds_succ]
  go_wp2
  go_ret
  exact ⟨rfl, rfl⟩
end Go.Proofs.YtjjmelhhalomaaaGreatDoor
namespace Go.Proofs.YtjjmelhhalomaaaGreatDoor
open Go.Lib
theorem digf : ∀ d : Fin 10, isSp (UInt8.ofNat (48 + d.val)) = false ∧ digitVal (UInt8.ofNat (48 + d.val)) = some d.val ∧ (UInt8.ofNat (48 + d.val)).toNat < 128 ∧ UInt8.ofNat (48 + d.val) ≠ 10 ∧ UInt8.ofNat (48 + d.val) ≠ 45 ∧ UInt8.ofNat (48 + d.val) ≠ 43 := by decide +kernel
theorem dec_all : ∀ (u : Nat), ∀ b ∈ decDigits u, ∃ d : Fin 10, b = UInt8.ofNat (48 + d.val) := by
  intro u
  induction u using Nat.strongRecOn with
  | _ u ih =>
    intro b hb
    rw [decDigits] at hb
    split at hb
    · rename_i h; rw [List.mem_singleton] at hb; exact ⟨⟨u, h⟩, hb⟩
    · rename_i h
      rw [List.mem_append, List.mem_singleton] at hb
      rcases hb with hb | hb
      · exact ih (u / 10) (by omega) b hb
      · exact ⟨⟨u % 10, Nat.mod_lt _ (by decide)⟩, hb⟩
theorem dec_ne (u : Nat) : decDigits u ≠ [] := fun h => by
  have h1 := decDigits_length u
  have h2 := nDigits_pos u
  rw [h] at h1; simp at h1; omega
theorem decFrom_snoc : ∀ (l : List UInt8) (acc n : Nat) (b : UInt8) (d : Nat), decFrom acc l = some n → digitVal b = some d → decFrom acc (l ++ [b]) = some (n * 10 + d)
  | [], acc, n, b, d, h, hd => by
    simp only [decFrom, Option.some.injEq] at h
    subst h
    simp [decFrom, hd]
  | c :: l, acc, n, b, d, h, hd => by
    simp only [decFrom, List.cons_append] at h ⊢
    split at h
    · exact decFrom_snoc l _ n b d h hd
    · cases h
theorem decFrom_dec : ∀ (u : Nat), decFrom 0 (decDigits u) = some u := by
  intro u
  induction u using Nat.strongRecOn with
  | _ u ih =>
    rw [decDigits]
    split
    · rename_i h
      have hd := (digf ⟨u, h⟩).2.1
      simp only [] at hd
      simp only [decFrom, hd]; simp
    · rename_i h
      have := decFrom_snoc _ 0 _ _ _ (ih (u / 10) (by omega)) (digf ⟨u % 10, Nat.mod_lt _ (by decide)⟩).2.1
      rw [this]; congr 1; simp only []; omega
theorem atoi_dec (u : Nat) : atoi (decDigits u) = some (u : Int) := by
  have h := decFrom_dec u
  have hall := dec_all u
  cases hd : decDigits u with
  | nil => exact absurd hd (dec_ne u)
  | cons b r =>
    rw [hd] at h hall
    obtain ⟨d, hd'⟩ := hall b (List.mem_cons_self)
    obtain ⟨-, -, -, -, h45, h43⟩ := digf d
    rw [← hd'] at h45 h43
    show (if (b == 45) = true then _ else if (b == 43) = true then _ else (decNat (b :: r)).map fun (m : Nat) => (m : Int)) = _
    rw [if_neg (by simpa using h45), if_neg (by simpa using h43)]
    unfold decNat
    rw [if_neg (by simp), h]; rfl
theorem nDigits_le (u : Nat) : ∀ (k : Nat), u < 10 ^ (k + 1) → nDigits u ≤ k + 1 := by
  intro k
  induction k generalizing u with
  | zero => intro h; rw [nDigits_small (by simpa using h)]; exact Nat.le_refl _
  | succ k ih =>
    intro h
    by_cases h10 : u < 10
    · rw [nDigits_small h10]; omega
    · rw [nDigits_big h10]
      have := ih (u / 10) (by rw [Nat.pow_succ] at h; omega)
      omega
theorem atoiAll_dec (u : Nat) (h : u < 1000000000000) : atoiAll (decDigits u) = .ok (u : Int) := by
  rw [atoiAll_short _ (by rw [decDigits_length]; have := nDigits_le u 11 (by omega); omega), atoi_dec]; rfl
/-- Words, each with what ends it. -/
theorem fieldsGo_word (sp : UInt8) (l : List UInt8) (hs : isSp sp = true) : ∀ (w cur : List UInt8), (∀ b ∈ w, isSp b = false) → cur ++ w ≠ [] → fieldsGo cur (w ++ sp :: l) = (cur ++ w) :: fieldsGo [] l
  | [], cur, _, hne => by rw [List.nil_append, fieldsGo_end cur sp l hs (by simpa using hne), List.append_nil]
  | b :: w, cur, hw, _ => by
    rw [List.cons_append, fieldsGo_more cur b _ (hw b List.mem_cons_self), fieldsGo_word sp l hs w (cur ++ [b]) (fun x hx => hw x (List.mem_cons_of_mem _ hx)) (by simp)]
    simp
theorem fields_words : ∀ (l : List (List UInt8 × UInt8)), (∀ p ∈ l, p.1 ≠ [] ∧ (∀ b ∈ p.1, isSp b = false) ∧ isSp p.2 = true) → fields (l.map fun p => p.1 ++ [p.2]).flatten = l.map (·.1)
  | [], _ => rfl
  | p :: l, h => by
    obtain ⟨h1, h2, h3⟩ := h p List.mem_cons_self
    have ih := fields_words l (fun x hx => h x (List.mem_cons_of_mem _ hx))
    rw [List.map_cons, List.flatten_cons, List.map_cons, List.append_assoc]
    show fieldsGo [] (p.1 ++ p.2 :: _) = _
    rw [fieldsGo_word p.2 _ h3 p.1 [] h2 (by simpa using h1), List.nil_append]
    exact congrArg _ ih
/-- The record of numbers: a blank behind each but the last, behind which a line's end. -/
def numsB (l : List Nat) : List UInt8 := (l.map fun n => decDigits n ++ [32]).flatten
def recB (G K : List Nat) (r s : Nat) : List UInt8 := numsB (G.length :: G) ++ numsB (K.length :: K) ++ decDigits r ++ [32] ++ decDigits s ++ [10]
def recW (G K : List Nat) (r s : Nat) : List Nat := (G.length :: G) ++ (K.length :: K) ++ [r, s]
theorem recB_fields (G K : List Nat) (r s : Nat) : fields (recB G K r s) = (recW G K r s).map decDigits := by
  have h := fields_words ((((G.length :: G) ++ (K.length :: K) ++ [r]).map fun n => (decDigits n, (32 : UInt8))) ++ [(decDigits s, (10 : UInt8))]) (fun p hp => by
    have : ∃ n, p.1 = decDigits n ∧ (p.2 = 32 ∨ p.2 = 10) := by
      rw [List.mem_append, List.mem_map, List.mem_singleton] at hp
      rcases hp with ⟨n, -, rfl⟩ | rfl
      · exact ⟨n, rfl, .inl rfl⟩
      · exact ⟨s, rfl, .inr rfl⟩
    obtain ⟨n, e, h2⟩ := this
    rw [e]
    refine ⟨dec_ne n, fun b hb => ?_, by rcases h2 with h2 | h2 <;> rw [h2] <;> decide⟩
    obtain ⟨d, rfl⟩ := dec_all n b hb
    exact (digf d).1)
  have e1 : (((((G.length :: G) ++ (K.length :: K) ++ [r]).map fun n => (decDigits n, (32 : UInt8))) ++ [(decDigits s, (10 : UInt8))]).map fun p => p.1 ++ [p.2]).flatten = recB G K r s := by
    unfold recB numsB
    simp only [List.map_append, List.map_map, List.map_cons, List.map_nil, List.flatten_append, List.flatten_cons, List.flatten_nil, List.append_assoc, List.cons_append, List.nil_append, List.append_nil]
    rfl
  rw [e1] at h
  rw [h]
  unfold recW
  simp only [List.map_append, List.map_map, List.map_cons, List.map_nil, List.append_assoc, List.cons_append, List.nil_append]
  rfl
theorem recB_ascii (G K : List Nat) (r s : Nat) : ∀ b ∈ recB G K r s, b.toNat < 128 := by
  have hd : ∀ n, ∀ b ∈ decDigits n, b.toNat < 128 := fun n b hb => by obtain ⟨d, rfl⟩ := dec_all n b hb; exact (digf d).2.2.1
  have hn : ∀ l, ∀ b ∈ numsB l, b.toNat < 128 := fun l b hb => by
    unfold numsB at hb
    rw [List.mem_flatten] at hb
    obtain ⟨x, hx, hb⟩ := hb
    rw [List.mem_map] at hx
    obtain ⟨n, -, rfl⟩ := hx
    rw [List.mem_append, List.mem_singleton] at hb
    rcases hb with hb | rfl
    · exact hd n b hb
    · decide
  intro b hb
  unfold recB at hb
  simp only [List.mem_append, List.mem_singleton] at hb
  rcases hb with ((((hb | hb) | hb) | rfl) | hb) | rfl
  · exact hn _ b hb
  · exact hn _ b hb
  · exact hd _ b hb
  · decide
  · exact hd _ b hb
  · decide
/-- A record is a line: one line's end, at its end. -/
def LineB (l : List UInt8) : Prop := ∃ b, l = b ++ [10] ∧ ∀ x ∈ b, x ≠ 10
theorem recB_line (G K : List Nat) (r s : Nat) : LineB (recB G K r s) := by
  have hd : ∀ n, ∀ b ∈ decDigits n, b ≠ 10 := fun n b hb => by obtain ⟨d, rfl⟩ := dec_all n b hb; exact (digf d).2.2.2.1
  have hn : ∀ l, ∀ b ∈ numsB l, b ≠ 10 := fun l b hb => by
    unfold numsB at hb
    rw [List.mem_flatten] at hb
    obtain ⟨x, hx, hb⟩ := hb
    rw [List.mem_map] at hx
    obtain ⟨n, -, rfl⟩ := hx
    rw [List.mem_append, List.mem_singleton] at hb
    rcases hb with hb | rfl
    · exact hd n b hb
    · decide
  refine ⟨_, rfl, fun b hb => ?_⟩
  simp only [List.mem_append, List.mem_singleton] at hb
  rcases hb with (((hb | hb) | hb) | rfl) | hb
  · exact hn _ b hb
  · exact hn _ b hb
  · exact hd _ b hb
  · decide
  · exact hd _ b hb
theorem numsB_len (l : List Nat) (h : ∀ n ∈ l, n < 1000000) : (numsB l).length ≤ 7 * l.length := by
  unfold numsB
  induction l with
  | nil => simp
  | cons a l ih =>
    have h1 := ih (fun n hn => h n (List.mem_cons_of_mem _ hn))
    have h2 := nDigits_le a 5 (by have := h a List.mem_cons_self; omega)
    simp only [List.map_cons, List.flatten_cons, List.length_append, List.length_cons, List.length_nil, decDigits_length] at h1 ⊢
    omega
theorem recB_len (G K : List Nat) (r s : Nat) (hG : ∀ n ∈ G, n < 1000000) (hK : ∀ n ∈ K, n < 1000000) (hg : G.length ≤ 1000) (hk : K.length ≤ 1000) (hr : r < 1000000) (hs : s < 1000000) : 2 ≤ (recB G K r s).length ∧ (recB G K r s).length ≤ 20000 := by
  have a1 := numsB_len (G.length :: G) (fun n hn => by rcases List.mem_cons.1 hn with h | h <;> first | omega | exact hG n h)
  have a2 := numsB_len (K.length :: K) (fun n hn => by rcases List.mem_cons.1 hn with h | h <;> first | omega | exact hK n h)
  have a3 := nDigits_le r 5 (by omega)
  have a4 := nDigits_le s 5 (by omega)
  unfold recB
  simp only [List.length_append, List.length_cons, List.length_nil, decDigits_length] at a1 a2 ⊢
  omega
/-- A text line by line: as strings.Lines gives it. -/
def linesGo : List UInt8 → List UInt8 → List (List UInt8)
  | cur, [] => if cur.isEmpty then [] else [cur]
  | cur, b :: l => if b = 10 then (cur ++ [b]) :: linesGo [] l else linesGo (cur ++ [b]) l
def linesL (s : List UInt8) : List (List UInt8) := linesGo [] s
theorem linesGo_word (l : List UInt8) : ∀ (w cur : List UInt8), (∀ b ∈ w, b ≠ 10) → linesGo cur (w ++ 10 :: l) = (cur ++ w ++ [10]) :: linesGo [] l
  | [], cur, _ => by simp [linesGo]
  | b :: w, cur, hw => by
    rw [List.cons_append, linesGo, if_neg (hw b List.mem_cons_self), linesGo_word l w (cur ++ [b]) (fun x hx => hw x (List.mem_cons_of_mem _ hx))]
    simp
theorem linesGo_last : ∀ (w cur : List UInt8), (∀ b ∈ w, b ≠ 10) → linesGo cur w = if (cur ++ w).isEmpty then [] else [cur ++ w]
  | [], cur, _ => by simp [linesGo]
  | b :: w, cur, hw => by
    rw [linesGo, if_neg (hw b List.mem_cons_self), linesGo_last w (cur ++ [b]) (fun x hx => hw x (List.mem_cons_of_mem _ hx))]
    simp
theorem linesL_cons (w l : List UInt8) (hw : ∀ b ∈ w, b ≠ 10) : linesL (w ++ 10 :: l) = (w ++ [10]) :: linesL l := by
  unfold linesL; rw [linesGo_word l w [] hw, List.nil_append]
theorem linesL_last (w : List UInt8) (hw : ∀ b ∈ w, b ≠ 10) (h : w ≠ []) : linesL w = [w] := by
  unfold linesL
  rw [linesGo_last w [] hw, List.nil_append, if_neg (by simpa using h)]
theorem linesL_recs : ∀ (L : List (List UInt8)), (∀ l ∈ L, LineB l) → linesL L.flatten = L
  | [], _ => rfl
  | l :: L, h => by
    obtain ⟨b, rfl, hb⟩ := h l List.mem_cons_self
    have ih := linesL_recs L (fun x hx => h x (List.mem_cons_of_mem _ hx))
    rw [List.flatten_cons, List.append_assoc, List.singleton_append, linesL_cons b _ hb, ih]
/-- The last line's end. -/
theorem last_nl (X Y : List UInt8) (hX : X = [] ∨ ∃ Z, X = Z ++ [10]) (hY : ∀ b ∈ Y, b ≠ 10) : lastIndex (X ++ Y) [10] + 1 = (X.length : Int) := by
  have hocc : ∀ j, occAt (X ++ Y) [10] j = true ↔ (X ++ Y)[j]? = some 10 := fun j => by
    unfold occAt
    simp only [List.isPrefixOf_iff_prefix]
    rw [← List.head?_drop]
    cases h : (X ++ Y).drop j with
    | nil => simp
    | cons a t => simp [eq_comm]
  by_cases h0 : 1 ≤ (X ++ Y).length
  · unfold lastIndex
    rw [if_pos (by simpa using h0)]
    have hk : (X ++ Y).length - [(10 : UInt8)].length + 1 = (X ++ Y).length := by simp at h0 ⊢; omega
    rw [hk]
    rcases lastOcc_spec (X ++ Y) [10] (X ++ Y).length with ⟨h1, h2⟩ | ⟨i, hi, h1, h2, h3⟩
    · rcases hX with rfl | ⟨Z, rfl⟩
      · rw [h1]; simp
      · have := h2 Z.length (by simp)
        have h4 := (hocc Z.length).2 (by simp)
        rw [h4] at this; cases this
    · rw [h1]
      have h5 := (hocc i).1 h2
      rcases hX with rfl | ⟨Z, rfl⟩
      · rw [List.nil_append] at h5
        exact absurd rfl (hY 10 (List.mem_of_getElem? h5))
      · by_cases hlt : i < (Z ++ [10]).length
        · by_cases e : i = Z.length
          · subst e; simp
          · have := h3 Z.length (by simp at hlt; omega) (by simp)
            have h4 := (hocc Z.length).2 (by simp)
            rw [h4] at this; cases this
        · rw [List.getElem?_append_right (by omega)] at h5
          exact absurd rfl (hY 10 (List.mem_of_getElem? h5))
  · have : X = [] ∧ Y = [] := by
      have : (X ++ Y).length = 0 := by omega
      simpa using this
    obtain ⟨rfl, rfl⟩ := this
    decide
/-- How many whole records lie in the first n bytes. -/
def keepN : List (List UInt8) → Nat → Nat
  | [], _ => 0
  | l :: L, n => if l.length ≤ n then keepN L (n - l.length) + 1 else 0
theorem keepN_le : ∀ (L : List (List UInt8)) (n : Nat), keepN L n ≤ L.length
  | [], _ => Nat.le_refl _
  | l :: L, n => by
    unfold keepN
    split
    · have := keepN_le L (n - l.length); simp; omega
    · simp
theorem cut_nl : ∀ (L : List (List UInt8)) (hf : List UInt8) (n : Nat), (∀ l ∈ L, LineB l) → (∀ b ∈ hf, b ≠ 10) → ∃ Y, (L.flatten ++ hf).take n = (L.take (keepN L n)).flatten ++ Y ∧ (∀ b ∈ Y, b ≠ 10)
  | [], hf, n, _, hh => ⟨hf.take n, by simp [keepN], fun b hb => hh b (List.mem_of_mem_take hb)⟩
  | l :: L, hf, n, hL, hh => by
    unfold keepN
    split
    · rename_i hn
      obtain ⟨Y, h1, h2⟩ := cut_nl L hf (n - l.length) (fun x hx => hL x (List.mem_cons_of_mem _ hx)) hh
      refine ⟨Y, ?_, h2⟩
      rw [List.take_succ_cons, List.flatten_cons, List.flatten_cons, List.append_assoc, List.append_assoc, ← h1, List.take_append, List.take_of_length_le hn]
    · rename_i hn
      obtain ⟨b, rfl, hb⟩ := hL l List.mem_cons_self
      refine ⟨b.take n, ?_, fun x hx => hb x (List.mem_of_mem_take hx)⟩
      simp only [List.length_append, List.length_cons, List.length_nil] at hn
      rw [List.take_zero, List.flatten_nil, List.nil_append, List.flatten_cons, List.append_assoc, List.append_assoc, List.take_append_of_le_length (by omega)]
theorem flat_end : ∀ (L : List (List UInt8)), (∀ l ∈ L, LineB l) → L.flatten = [] ∨ ∃ Z, L.flatten = Z ++ [10] := by
  intro L
  induction L with
  | nil => intro _; exact .inl rfl
  | cons l L ih =>
    intro h
    obtain ⟨b, rfl, -⟩ := h l List.mem_cons_self
    rcases ih (fun x hx => h x (List.mem_cons_of_mem _ hx)) with e | ⟨Z, e⟩
    · exact .inr ⟨b, by rw [List.flatten_cons, e, List.append_nil]⟩
    · exact .inr ⟨b ++ [10] ++ Z, by rw [List.flatten_cons, e, List.append_assoc (b ++ [10])]⟩
theorem crash_cut (L : List (List UInt8)) (hf : List UInt8) (n : Nat) (hL : ∀ l ∈ L, LineB l) (hh : ∀ b ∈ hf, b ≠ 10) :
    lastIndex ((L.flatten ++ hf).take n) [10] + 1 = (((L.take (keepN L n)).flatten.length : Nat) : Int) ∧ ((L.flatten ++ hf).take n).take (L.take (keepN L n)).flatten.length = (L.take (keepN L n)).flatten := by
  obtain ⟨Y, h1, h2⟩ := cut_nl L hf n hL hh
  rw [h1]
  refine ⟨last_nl _ Y (flat_end _ (fun l hl => hL l (List.mem_of_mem_take hl))) h2, List.take_left⟩
end Go.Proofs.YtjjmelhhalomaaaGreatDoor
namespace Go.Proofs.YtjjmelhhalomaaaGreatDoor
open Go.RowKit
set_option linter.unusedVariables false
/-- Two slices that own no block together. -/
def Ap (u v : Value) : Prop := ∀ g, u.ownBlock = some g → v.ownBlock ≠ some g
theorem Ap.symm {u v : Value} (h : Ap u v) : Ap v u := fun g hv hu => h g hu hv
theorem Ap.nil (v : Value) : Ap (.slice none 0 0) v := fun g h => by cases h
/-- What is appended to one leaves the other one. -/
theorem row_pair {w w' : World} {B e size n : Nat} {u u' v : Value} {ys : List Value} (hv : w.ownsRow B e size v n ys) (ha : Ap u v) (hg : w.grownBy w' u.ownBlock) (hl : u'.ownBlock = u.ownBlock ∨ u'.ownBlock = some w.heap.size) : w'.ownsRow B e size v n ys ∧ Ap u' v := by
  refine ⟨hv.kept hg ?_, fun g h1 h2 => ?_⟩
  · cases hvb : v.ownBlock with
    | none => exact .inl rfl
    | some k => exact .inr (fun e => ha k e.symm hvb)
  · rcases hl with e | e
    · exact ha g (e.symm.trans h1) h2
    · rw [e] at h1
      have := (hv.lt g h2).2
      cases h1
      exact Nat.lt_irrefl _ this
end Go.Proofs.YtjjmelhhalomaaaGreatDoor
namespace Go.Proofs.YtjjmelhhalomaaaGreatDoor
open Go.RowKit
set_option maxRecDepth 100000
set_option linter.unusedVariables false
set_option linter.unusedSimpArgs false
/-- Truths that lie from a place on. -/
structure BolsAt (w : World) (b off : Nat) (l : List Bool) : Prop where
  lt : b < w.heap.size
  c : ∀ i (h : i < l.length), w.cell? ⟨b, off + i, none⟩ = some (.bool l[i])
theorem BolsAt.below {w w' : World} {b off : Nat} {l : List Bool} (h : BolsAt w b off l) (hb : Below w.heap.size w w') : BolsAt w' b off l :=
  ⟨Nat.lt_of_lt_of_le h.lt hb.size, fun i hi => (hb.cell (p := ⟨b, off + i, none⟩) h.lt).trans (h.c i hi)⟩
def BolSl (w : World) (v : Value) (l : List Bool) : Prop := ∃ a cap, v = .slice a l.length cap ∧ (0 < l.length → ∃ b off, a = some ⟨b, off, none⟩ ∧ BolsAt w b off l)
theorem BolSl.below {w w' : World} {v : Value} {l : List Bool} (h : BolSl w v l) (hb : Below w.heap.size w w') : BolSl w' v l := by
  obtain ⟨a, cap, rfl, h⟩ := h
  exact ⟨a, cap, rfl, fun h0 => by obtain ⟨b, off, e, hs⟩ := h h0; exact ⟨b, off, e, hs.below hb⟩⟩
theorem own_bols {w : World} {B e : Nat} {v : Value} {l : List Bool} {n : Nat} (h : w.ownsRow B e 1 v n (l.map Value.bool)) (hn : n = l.length) : BolSl w v l := by
  subst hn
  obtain ⟨hl, h | ⟨g, cap, cur, rfl, hb, hg, hc, -, -, ht⟩⟩ := h
  · obtain ⟨rfl, h0⟩ := h
    exact ⟨none, 0, by rw [h0], fun hp => absurd h0 (by omega)⟩
  · refine ⟨_, _, rfl, fun _ => ⟨g, 0, rfl, (Array.getElem?_eq_some_iff.1 hg).1, fun i hi => ?_⟩⟩
    have k1 : (l.map Value.bool)[i]? = some (.bool l[i]) := by simp [hi]
    rw [cell_of_row w g _ cur e (0, 0) hg]
    simp only [Nat.zero_add]
    rw [← ht, List.getElem?_take, if_pos (by omega), Array.getElem?_toList] at k1
    assumption
/-- A book that lies in a block: its coins (by number) and which of them are gone. -/
structure BkV (w : World) (B p : Nat) (vc vg : Value) (N : List Int) (G : List Bool) : Prop where
  c0 : w.cell? ⟨p, 0, none⟩ = some vc
  c1 : w.cell? ⟨p, 1, none⟩ = some vg
  f0 : w.frozen? ⟨p, 0, none⟩ = false
  f1 : w.frozen? ⟨p, 1, none⟩ = false
  lt : p < w.heap.size
  bp : B ≤ p
  rc : w.ownsRow B 28 3 vc N.length (spCells (N.map qS))
  rg : w.ownsRow B 4 1 vg N.length (G.map Value.bool)
  ln : G.length = N.length
  ap : Ap vc vg
  nc : vc.ownBlock ≠ some p
  ng : vg.ownBlock ≠ some p
def BkAt (w : World) (B p : Nat) (N : List Int) (G : List Bool) : Prop := ∃ vc vg, BkV w B p vc vg N G
theorem own_slB {w : World} {B e size n : Nat} {v : Value} {xs : List Value} (h : w.ownsRow B e size v n xs) : ∃ a cap, v = .slice a n cap := by
  rcases h.2 with ⟨rfl, h0⟩ | ⟨g, cap, cur, rfl, -⟩
  · exact ⟨none, 0, by rw [h0]⟩
  · exact ⟨_, _, rfl⟩
theorem own_base {w : World} {B B' e size n : Nat} {v : Value} {xs : List Value} (h : w.ownsRow B' e size v n xs) (hB : B ≤ B') : w.ownsRow B e size v n xs := by
  refine ⟨h.1, ?_⟩
  rcases h.2 with hn | ⟨g, cap, cur, rfl, hg, rest⟩
  · exact .inl hn
  · exact .inr ⟨g, cap, cur, rfl, Nat.le_trans hB hg, rest⟩
theorem own_keep {w w' : World} {B e size n : Nat} {v : Value} {xs : List Value} (h : w.ownsRow B e size v n xs) (hk : ∀ k, v.ownBlock = some k → w'.heap[k]? = w.heap[k]?) : w'.ownsRow B e size v n xs := by
  refine ⟨h.1, ?_⟩
  rcases h.2 with hn | ⟨g, cap, cur, rfl, hg, hgg, rest⟩
  · exact .inl hn
  · exact .inr ⟨g, cap, cur, rfl, hg, by rw [hk g rfl]; exact hgg, rest⟩
/-- It stays, where its blocks stay. -/
theorem BkV.keep {w w' : World} {B p : Nat} {vc vg : Value} {N : List Int} {G : List Bool} (h : BkV w B p vc vg N G) (hs : w.heap.size ≤ w'.heap.size) (hk : ∀ k, k = p ∨ vc.ownBlock = some k ∨ vg.ownBlock = some k → w'.heap[k]? = w.heap[k]?) : BkV w' B p vc vg N G :=
  ⟨(World.cell?_of_block (hk p (.inl rfl))).trans h.c0, (World.cell?_of_block (hk p (.inl rfl))).trans h.c1, (World.frozen?_of_block (hk p (.inl rfl))).trans h.f0, (World.frozen?_of_block (hk p (.inl rfl))).trans h.f1, Nat.lt_of_lt_of_le h.lt hs, h.bp,
    own_keep h.rc (fun k e => hk k (.inr (.inl e))), own_keep h.rg (fun k e => hk k (.inr (.inr e))), h.ln, h.ap, h.nc, h.ng⟩
theorem BkV.blk {w : World} {B p : Nat} {vc vg : Value} {N : List Int} {G : List Bool} (h : BkV w B p vc vg N G) (k : Nat) (hk : k = p ∨ vc.ownBlock = some k ∨ vg.ownBlock = some k) : B ≤ k ∧ k < w.heap.size := by
  rcases hk with rfl | hk | hk
  · exact ⟨h.bp, h.lt⟩
  · exact h.rc.lt k hk
  · exact h.rg.lt k hk
theorem BkV.below {w w' : World} {B p : Nat} {vc vg : Value} {N : List Int} {G : List Bool} (h : BkV w B p vc vg N G) (hb : Below w.heap.size w w') : BkV w' B p vc vg N G :=
  h.keep hb.size fun k hk => hb.block k (h.blk k hk).2
theorem BkAt.below {w w' : World} {B p : Nat} {N : List Int} {G : List Bool} (h : BkAt w B p N G) (hb : Below w.heap.size w w') : BkAt w' B p N G := by
  obtain ⟨vc, vg, h⟩ := h; exact ⟨vc, vg, h.below hb⟩
theorem BkV.sp {w : World} {B p : Nat} {vc vg : Value} {N : List Int} {G : List Bool} (h : BkV w B p vc vg N G) : SpSl w vc (N.map qS) := own_spots h.rc (by rw [List.length_map])
theorem BkV.bo {w : World} {B p : Nat} {vc vg : Value} {N : List Int} {G : List Bool} (h : BkV w B p vc vg N G) : BolSl w vg G := own_bols h.rg h.ln.symm
theorem BkV.box {w : World} {B : Nat} {vc vg : Value} {N : List Int} {G : List Bool} (t : TypeId) (rc : w.ownsRow B 28 3 vc N.length (spCells (N.map qS))) (rg : w.ownsRow B 4 1 vg N.length (G.map Value.bool)) (ln : G.length = N.length) (ap : Ap vc vg) (hB : B ≤ w.heap.size) (p : Nat) (hp : p = w.heap.size) :
    BkV (w.alloc (.cells #[vc, vg] t)) B p vc vg N G := by
  subst hp
  exact ⟨by go_simp, by go_simp, by go_simp, by go_simp, by simp, hB, rc.alloc _, rg.alloc _, ln, ap, fun e => Nat.lt_irrefl _ (rc.lt _ e).2, fun e => Nat.lt_irrefl _ (rg.lt _ e).2⟩
theorem mk_bols (n : Nat) (h : n ≤ 1000000) : ∀ w : World, (Instr.makeSlice 88 (.int .i64 (n : Int)) (.int .i64 (n : Int))).run Tryz.prog w = .ok (.slice (some ⟨w.heap.size, 0, none⟩) n n) (w.alloc (.cells (madeCells #[.bool false] n) 4)) := by
  intro w
  obtain ⟨i0, hi, hz0, hz1, hz2⟩ := info_parts info_bool
  have := run_makeSlice (P := Tryz.prog) w 88 4 i0 (.bool false) Tryz.underlying88 hi hz0 .i64 .i64 n n (by omega) (Int.le_refl _) (by rw [hz1]; simp; omega) (by rw [hz2]; omega) (by omega)
  rw [hz1, Nat.mul_one] at this
  simpa [Value.cells] using this
theorem own_made (w : World) (B n : Nat) (hB : B ≤ w.heap.size) (hn : n ≤ 1000000) : (w.alloc (.cells (madeCells #[.bool false] n) 4)).ownsRow B 4 1 (.slice (some ⟨w.heap.size, 0, none⟩) n n) n ((List.replicate n false).map Value.bool) := by
  have := World.ownsRow_lit (base := B) (e := 4) (size := 1) w (madeCells #[.bool false] n) n hB (by unfold maxLen; omega) (by rw [size_madeCells, Nat.mul_one])
  rw [toList_madeCells_one] at this
  rw [List.map_replicate]; exact this
set_option maxHeartbeats 4000000 in
theorem bnew_y (N : List Int) (a : Option Addr) (c : Nat) (w : World) (hn : N.length ≤ 12) (hF : FarAt w) (hL : 0 < (N.map qS).length → ∃ b o, a = some ⟨b, o, none⟩ ∧ SpotsAt w b o (N.map qS)) :
    Calls Tryz.prog 15 #[.slice a N.length c] w fun e w' => ∃ p, e = .returned (.tuple #[.pointer (some ⟨p, 0, none⟩), .nilIface]) ∧ BkAt w' w.heap.size p N (List.replicate N.length false) ∧ Below w.heap.size w w' := by
  have hl : (N.map qS).length = N.length := List.length_map _
  have hck := bcheck_core (N.map qS) (N.map qS).length .nilIface a c w hF (by omega) hL (Lib.hid fun k h1 _ => ⟨_, List.getElem_map _⟩) (Nat.le_refl _) (Lib.hid fun h => absurd h (Nat.lt_irrefl _)) (Lib.hid fun h => absurd h (Nat.lt_irrefl _)) (Lib.hid fun _ => rfl)
  have hcl := fun (w1 : World) (hb : Below w.heap.size w w1) => cloneS_c (N.map qS) a c w1 (by omega) (fun h => by obtain ⟨b, o, e, hs⟩ := hL h; exact ⟨b, o, e, hs.below hb⟩)
  rw [hl] at hck
  simp only [hl] at hcl
  replace hck := Lib.hid hck
  replace hcl := Lib.hid hcl
  have hmk := mk_bols N.length (by omega)
  clear hL hF
  go_enter Tryz.func15, Tryz.ntmps15
  go_wp2_with fail
  refine hck.out.mono ?_; rintro e w1 ⟨rfl, hb1⟩
  replace hb1 := Lib.hid hb1
  clear hck
  go_upto_region 4 with fail
  go_region_with (first | (go_at_call 45; refine (hcl.out _ (by repeat (first | exact hb1.out | refine balloc ?_ _ | refine Below.drew ?_))).mono ?_; rintro e wb ⟨vo, rfl, hown, hbb⟩; obtain ⟨av, cv, rfl⟩ := own_slB hown; replace hown := Lib.hid hown; replace hbb := Lib.hid hbb))
  · have hsz : w.heap.size ≤ w1.heap.size := hb1.out.size
    have hbz : w1.heap.size ≤ wb.heap.size := hbb.out.size
    have hbB : Below w.heap.size w wb := below_seq hb1.out.drew hbb.out
    go_wp2
    go_ret2
    refine ⟨_, rfl, ⟨_, _, BkV.box _ ((own_base hown.out hsz).alloc _) (own_made wb w.heap.size N.length (by omega) (by omega)) (by simp) (fun g h1 h2 => ?_) (by simp; omega) _ (by simp)⟩, balloc (balloc hbB _) _⟩
    have h3 := (hown.out.lt g h1).2
    simp [Value.ownBlock] at h2
    omega
  · have hsz : w.heap.size ≤ w1.heap.size := hb1.out.size
    have hbz := hbb.out.size
    have hbB : Below w.heap.size w wb := below_seq (balloc hb1.out.drew _) hbb.out
    have hmd := own_made w1.drew w.heap.size N.length hsz (by omega)
    have hmd2 := own_below hmd hbb.out
    simp at hbz
    go_wp2
    go_ret2
    refine ⟨_, rfl, ⟨_, _, BkV.box _ (own_base hown.out (by simp; omega)) hmd2 (by simp) (fun g h1 h2 => ?_) (by omega) _ rfl⟩, balloc hbB _⟩
    have h3 := (hown.out.lt g h1).1
    simp [Value.ownBlock] at h2 h3
    omega
/-- A book is not made of coins that are refused. -/
theorem bnew_n (n : Nat) (E : Value) (a : Option Addr) (c : Nat) (w : World) (hE : ∃ k : Int, E = .iface 84 (.int .i64 k)) (hck : Calls Tryz.prog 44 #[.slice a n c] w fun e w' => e = .returned E ∧ Below w.heap.size w w') :
    Calls Tryz.prog 15 #[.slice a n c] w fun e w' => e = .returned (.tuple #[.pointer none, E]) ∧ Below w.heap.size w w' := by
  obtain ⟨k, rfl⟩ := hE
  replace hck := Lib.hid hck
  go_enter Tryz.func15, Tryz.ntmps15
  go_wp2_with fail
  refine hck.out.mono ?_; rintro e w1 ⟨rfl, hb1⟩
  clear hck
  go_wp2
  go_ret2
  exact ⟨rfl, hb1⟩
end Go.Proofs.YtjjmelhhalomaaaGreatDoor
namespace Go.Proofs.YtjjmelhhalomaaaGreatDoor
open Go.RowKit
set_option maxRecDepth 100000
set_option linter.unusedVariables false
set_option linter.unusedSimpArgs false
/-- The fault of a coin that is to go, behind those that went before. -/
def gErrB (G : List Bool) (pre : List Int) (g : Int) : Int := if g < 0 ∨ (G.length : Int) ≤ g then 1 else if G.getD g.toNat true = true then 6 else if g ∈ pre then 7 else 0
/-- What goes: its number, turned. -/
def outN (N gl : List Int) : Int := -(gl.map fun g => N.getD g.toNat 0).sum
theorem outN_snoc (N gl : List Int) (g : Int) : outN N (gl ++ [g]) = outN N gl + -(N.getD g.toNat 0) := by
  unfold outN; rw [List.map_append, List.sum_append]; simp; omega
theorem outN_nil (N : List Int) : outN N [] = 0 := rfl
theorem qS_add (a b : Int) : sSum (qS a) (qS b) = qS (a + b) := by unfold qS; rw [sq_add]; congr 1; omega
theorem qS_neg (a : Int) : sTurned (qS a) = qS (-a) := by unfold qS; rw [sq_neg]; congr 1; omega
theorem qS_zero : qS 0 = ⟨0, 0, true⟩ := sq_zero
theorem take_snocI (l : List Int) (k : Nat) (h : k < l.length) : l.take (k + 1) = l.take k ++ [l[k]] := by
  rw [List.take_add_one, List.getElem?_eq_getElem h]; rfl
theorem sumB_snoc (l : List Int) (k : Nat) (h : k < l.length) : (l.take (k + 1)).sum = (l.take k).sum + l[k] := by
  rw [take_snocI l k h, List.sum_append]; simp
theorem IntsAt.take {w : World} {b o : Nat} {l : List Int} (h : IntsAt w b o l) (n : Nat) : IntsAt w b o (l.take n) :=
  ⟨h.lt, fun i hi => by rw [List.getElem_take]; exact h.c i (by rw [List.length_take] at hi; omega)⟩
set_option maxHeartbeats 16000000 in
theorem bex_core (N : List Int) (G : List Bool) (B p : Nat) (gl : List Int) (C : List Sp) (a0 a1 : Option Addr) (c0 c1 : Nat) (kk : Nat) (E : Int) (V R : Value) (w : World) (hF : FarAt w) (hBk : BkAt w B p N G) (hNl : N.length ≤ 1000000) (hgl : gl.length ≤ 9223372036854775807) (hc0 : gl.length ≤ c0) (hc0' : c0 ≤ 9223372036854775807)
    (h0 : 0 < gl.length → ∃ b o, a0 = some ⟨b, o, none⟩ ∧ IntsAt w b o gl) (h1 : 0 < C.length → ∃ b o, a1 = some ⟨b, o, none⟩ ∧ SpotsAt w b o C) (hCl : C.length ≤ 9223372036854775807)
    (hkk : kk ≤ gl.length) (hgood : ∀ i (h : i < gl.length), i < kk → gErrB G (gl.take i) gl[i] = 0) (hbad : ∀ h : kk < gl.length, gErrB G (gl.take kk) gl[kk] = E ∧ E ≠ 0)
    (hck : Hid (∀ w1 : World, Below w.heap.size w w1 → Calls Tryz.prog 44 #[.slice a1 C.length c1] w1 fun e w' => e = .returned V ∧ Below w1.heap.size w1 w'))
    (hR0 : Hid (kk < gl.length → R = .tuple #[spV ⟨0, 0, false⟩, .iface 84 (.int .i64 E)]))
    (hR1 : Hid (kk = gl.length → (∃ k, V = .iface 84 (.int .i64 k) ∧ R = .tuple #[spV ⟨0, 0, false⟩, V]) ∨ (V = .nilIface ∧ ∃ M : List Int, C = M.map qS ∧ R = .tuple #[spV (qS (outN N gl + M.sum)), .nilIface]))) :
    Calls Tryz.prog 17 #[.pointer (some ⟨p, 0, none⟩), .slice a0 gl.length c0, .slice a1 C.length c1] w fun e w' => e = .returned R ∧ Below w.heap.size w w' := by
  obtain ⟨vc, vg, hBk⟩ := hBk
  obtain ⟨ac, cc, rfl⟩ := own_slB hBk.rc
  obtain ⟨ag, cg, rfl⟩ := own_slB hBk.rg
  have hNs : 0 < N.length → ∃ b o, ac = some ⟨b, o, none⟩ ∧ SpotsAt w b o (N.map qS) := fun h => by
    obtain ⟨a, c, e, hs⟩ := hBk.sp
    simp only [Value.slice.injEq] at e
    obtain ⟨rfl, -, -⟩ := e
    exact hs (by rw [List.length_map]; exact h)
  have hGs : 0 < N.length → ∃ b o, ag = some ⟨b, o, none⟩ ∧ BolsAt w b o G := fun h => by
    obtain ⟨a, c, e, hs⟩ := hBk.bo
    simp only [Value.slice.injEq] at e
    obtain ⟨rfl, -, -⟩ := e
    exact hs (by rw [hBk.ln]; exact h)
  have hGl := hBk.ln
  have p0 := hBk.c0
  have p1 := hBk.c1
  have hp := hBk.lt
  have hcp := Lib.hid (fun (w' : World) (hb : Below w.heap.size w w') => (⟨((bcell hb).1 _ 0 hp).trans p0, ((bcell hb).1 _ 1 hp).trans p1, Nat.lt_of_lt_of_le hp hb.size⟩ : w'.cell? ⟨p, 0, none⟩ = some (.slice ac N.length cc) ∧ w'.cell? ⟨p, 1, none⟩ = some (.slice ag N.length cg) ∧ p < w'.heap.size))
  clear hBk p0 p1
  replace h0 := Lib.hid h0
  replace h1 := Lib.hid h1
  replace hNs := Lib.hid hNs
  replace hGs := Lib.hid hGs
  replace hgood := Lib.hid hgood
  replace hbad := Lib.hid hbad
  have hF' := Lib.hid hF
  obtain ⟨q0, q1, q2, ql⟩ := hF
  go_enter Tryz.func17, Tryz.ntmps17
  go_wp2
  have t0 : SpAt ((w.alloc (.cells #[.int .i64 0, .int .i64 0, .bool false] 28)).alloc (.cells #[.int .i64 0, .int .i64 0, .bool true] 28)) w.heap.size ⟨0, 0, false⟩ := (SpAt.fresh _ _ _ _ _).alloc _
  have t1 : SpAt ((w.alloc (.cells #[.int .i64 0, .int .i64 0, .bool false] 28)).alloc (.cells #[.int .i64 0, .int .i64 0, .bool true] 28)) (w.heap.size + 1) ⟨0, 0, true⟩ := SpAt.fresh1 _ _ _ _ _ _
  have tb := balloc (below_alloc w (.cells #[.int .i64 0, .int .i64 0, .bool false] 28)) (.cells #[.int .i64 0, .int .i64 0, .bool true] 28)
  replace t0 := Lib.hid t0
  replace t1 := Lib.hid t1
  replace tb := Lib.hid tb
  clear q0 q1 q2 ql
  generalize (w.alloc (.cells #[.int .i64 0, .int .i64 0, .bool false] 28)).alloc (.cells #[.int .i64 0, .int .i64 0, .bool true] 28) = w0 at *
  go_loopw [17] (fun i wr => ∃ n : Nat, n ≤ gl.length ∧ n ≤ kk ∧ i = .int .i64 n ∧ SpAt wr w.heap.size ⟨0, 0, false⟩ ∧ SpAt wr (w.heap.size + 1) (qS (outN N (gl.take n))) ∧ Below w.heap.size w wr) (fun i _ => gl.length - (intOf i).toNat)
  case atStart => exact ⟨0, Nat.zero_le _, Nat.zero_le _, rfl, t0.out, (by show SpAt w0 _ (qS 0); rw [qS_zero]; exact t1.out), tb.out⟩
  case round =>
    clear t0 t1 tb
    obtain ⟨n, hn, hnk, rfl, hr, ho, hB⟩ := hrel
    have hol := ho.lt
    have hrl := hr.lt
    replace hr := Lib.hid hr
    replace ho := Lib.hid ho
    replace hB := Lib.hid hB
    by_cases hlt : n < gl.length
    · obtain ⟨b0, o0, rfl, hs0⟩ := h0.out (by omega)
      have hsI := hs0.below hB.out
      have l1 := hsI.c n hlt
      have l2 := hsI.lt
      obtain ⟨r0, r1, r2⟩ := hcp.out _ hB.out
      have hgd := Lib.hid (hgood.out n hlt)
      have hbn : n = kk → gErrB G (gl.take n) gl[n] = E ∧ E ≠ 0 := fun e => by subst e; exact hbad.out hlt
      replace hbn := Lib.hid hbn
      have hRn := Lib.hid (fun e : n = kk => hR0.out (by omega))
      have hsn := Lib.hid (take_snocI gl n hlt)
      have hst := Lib.hid (hsI.take n)
      have htl : (gl.take n).length = n := by rw [List.length_take]; omega
      clear hsI hs0 hgood hbad hR0 hR1 h1 hck
      generalize gl[n] = g at *
      generalize gl.take n = pre at *
      by_cases hrg : g < 0 ∨ (N.length : Int) ≤ g
      · have hE : gErrB G pre g = 1 := if_pos (by rw [hGl]; exact hrg)
        have hnk2 : n = kk := by
          by_cases e : n = kk
          · exact e
          · have := hgd.out (by omega); omega
        obtain ⟨e1, -⟩ := hbn.out hnk2
        have hR := hRn.out hnk2
        obtain rfl : E = 1 := by omega
        clear hgd hbn hRn hnk2 hE e1 hNs hGs hsn hst
        obtain ⟨k0, k1, k2, kf0, kf1, kf2, kl⟩ := hr.out
        rcases hrg with hrg | hrg
        · have d1 : decide (g < 0) = true := decide_eq_true hrg
          go_wp2
          have k := set3_cell (w := wr) (x := .int .i64 0) (y := .int .i64 0) (z := .bool false) k0 k1 k2
          refine bodyPost_ret (v := .tuple #[spV ⟨0, 0, false⟩, .iface 84 (.int .i64 1)]) (by simp [results, Tryz.results17, go_sem, k.1, k.2.1, k.2.2]) rfl ⟨by first | rfl | rw [hR], set3_below hB.out (Nat.le_refl _)⟩
        · have d1 : decide (g < 0) = false := decide_eq_false (by omega)
          have d2 : decide ((N.length : Int) ≤ g) = true := decide_eq_true hrg
          go_wp2
          have k := set3_cell (w := wr) (x := .int .i64 0) (y := .int .i64 0) (z := .bool false) k0 k1 k2
          refine bodyPost_ret (v := .tuple #[spV ⟨0, 0, false⟩, .iface 84 (.int .i64 1)]) (by simp [results, Tryz.results17, go_sem, k.1, k.2.1, k.2.2]) rfl ⟨by first | rfl | rw [hR], set3_below hB.out (Nat.le_refl _)⟩
      · obtain ⟨j, rfl⟩ : ∃ j : Nat, g = (j : Int) := ⟨g.toNat, by omega⟩
        have hj : j < N.length := by omega
        have d1 : decide ((j : Int) < 0) = false := decide_eq_false (by omega)
        have d2 : decide ((N.length : Int) ≤ (j : Int)) = false := decide_eq_false (by omega)
        have hjG : j < G.length := by rw [hGl]; exact hj
        obtain ⟨bg, og, rfl, hsG⟩ := hGs.out (by omega)
        have g1 := (hsG.below hB.out).c j hjG
        have g2 := (hsG.below hB.out).lt
        have hgE : gErrB G pre (j : Int) = if G[j] = true then 6 else if (j : Int) ∈ pre then 7 else 0 := by
          unfold gErrB
          rw [if_neg (by rw [hGl]; exact hrg), Int.toNat_natCast, List.getD_eq_getElem?_getD, List.getElem?_eq_getElem hjG]; rfl
        rw [hgE] at hgd hbn
        clear hgE hsG hGs hrg
        generalize G[j] = gj at *
        cases gj
        · have hCn := contains_c pre (j : Int) (some ⟨b0, o0, none⟩) c0 wr (decide ((j : Int) ∈ pre)) decide_eq_true_iff (by omega) (fun _ => ⟨b0, o0, rfl, hst.out⟩)
          rw [htl] at hCn
          replace hCn := Lib.hid hCn
          have d3 : (n : Int) ≤ (c0 : Int) := by omega
          by_cases hmem : (j : Int) ∈ pre
          · have hnk2 : n = kk := by
              by_cases e : n = kk
              · exact e
              · have := hgd.out (by omega); rw [if_neg (by simp), if_pos hmem] at this; omega
            obtain ⟨e1, -⟩ := hbn.out hnk2
            have hR := hRn.out hnk2
            obtain rfl : E = 7 := by rw [if_neg (by simp), if_pos hmem] at e1; exact e1.symm
            rw [decide_eq_true hmem] at hCn
            clear hgd hbn hRn hnk2 e1 hNs hsn hst hmem
            obtain ⟨k0, k1, k2, kf0, kf1, kf2, kl⟩ := hr.out
            go_wp2_with fail
            refine hCn.out.mono ?_; rintro e w' ⟨rfl, rfl⟩
            clear hCn
            go_wp2
            have k := set3_cell (w := wr) (x := .int .i64 0) (y := .int .i64 0) (z := .bool false) k0 k1 k2
            refine bodyPost_ret (v := .tuple #[spV ⟨0, 0, false⟩, .iface 84 (.int .i64 7)]) (by simp [results, Tryz.results17, go_sem, k.1, k.2.1, k.2.2]) rfl ⟨by first | rfl | rw [hR], set3_below hB.out (Nat.le_refl _)⟩
          · have hnk2 : n < kk := by
              by_cases e : n = kk
              · obtain ⟨e1, e2⟩ := hbn.out e
                rw [if_neg (by simp), if_neg hmem] at e1
                exact absurd e1.symm e2
              · omega
            rw [decide_eq_false hmem] at hCn
            have hsn1 : Hid (qS (outN N (gl.take (n + 1))) = sSum (qS (outN N pre)) (qS (-N[j]))) := by
              show _ = _
              rw [hsn.out, outN_snoc, qS_add, Int.toNat_natCast, List.getD_eq_getElem?_getD, List.getElem?_eq_getElem hj]; rfl
            obtain ⟨bc, oc, rfl, hsN⟩ := hNs.out (by omega)
            have hjm : j < (N.map qS).length := by rw [List.length_map]; exact hj
            have m1 := (hsN.below hB.out).cx j hjm
            have m2 := (hsN.below hB.out).cy j hjm
            have m3 := (hsN.below hB.out).cf j hjm
            have m4 := (hsN.below hB.out).lt
            rw [List.getElem_map] at m1 m2 m3
            have hT := Lib.hid (qS_neg N[j])
            clear hgd hbn hRn hNs hsn hst hmem hsN
            have oK := qS_ok N[j]
            have oT := qS_ok (-N[j])
            have oS := qS_ok (outN N pre)
            generalize qS N[j] = K at *
            generalize qS (-N[j]) = T at *
            generalize qS (outN N pre) = S at *
            generalize hD : qS (outN N (gl.take (n + 1))) = D at *
            replace hD := Lib.hid hD
            have hD2 : Hid (sSum S T = D) := Lib.hid hsn1.out.symm
            clear hsn1
            obtain ⟨o0', o1', o2', of0, of1, of2, ol⟩ := ho.out
            have hFr := Lib.hid (hF'.out.below hB.out)
            go_wp2_with fail
            refine hCn.out.mono ?_; rintro e w' ⟨rfl, rfl⟩
            clear hCn
            go_upto_region 11 with fail
            refine wp_region_grow_tail 10 Tryz.mixed (by kernel_rfl) ?_
            simp only [List.take_succ_cons, List.take_zero, List.drop_succ_cons, List.drop_zero]
            repeat (quiet_step (first | (go_at_call 48; exact grow_of (turned_e K T _ oK hT)) | (go_at_call 47; exact grow_of (sum_e S T D _ (hFr.out.below (Grew.h _)) oS oT hD2))))
            refine wpQuiet_nil ?_
            intro _ hw'
            obtain ⟨x, rfl⟩ := hw'
            have hr2 := hr.out.below x.h
            have ho2 := ho.out.below x.h
            have ho2' := Lib.hid ho2
            have hB2 := Lib.hid (below_seq hB.out x.h)
            clear l1 l2 r0 r1 r2 g1 g2 m1 m2 m3 m4 o0' o1' o2' of0 of1 of2 ol
            obtain ⟨o0', o1', o2', of0, of1, of2, ol⟩ := ho2
            go_wp2
            go_roundw
            case rel => exact ⟨n + 1, by omega, by omega, by go_num, hr2.set3o (by omega) _ _ _, by rw [hD.out]; exact ho2'.out.set3 _, set3_below hB2.out (by omega)⟩
            case measure => simp [intOf]; omega
        · have hnk2 : n = kk := by
            by_cases e : n = kk
            · exact e
            · have := hgd.out (by omega); simp at this
          obtain ⟨e1, -⟩ := hbn.out hnk2
          have hR := hRn.out hnk2
          obtain rfl : E = 6 := by rw [if_pos rfl] at e1; exact e1.symm
          clear hgd hbn hRn hnk2 e1 hNs hsn hst
          obtain ⟨k0, k1, k2, kf0, kf1, kf2, kl⟩ := hr.out
          go_wp2
          have k := set3_cell (w := wr) (x := .int .i64 0) (y := .int .i64 0) (z := .bool false) k0 k1 k2
          refine bodyPost_ret (v := .tuple #[spV ⟨0, 0, false⟩, .iface 84 (.int .i64 6)]) (by simp [results, Tryz.results17, go_sem, k.1, k.2.1, k.2.2]) rfl ⟨by first | rfl | rw [hR], set3_below hB.out (Nat.le_refl _)⟩
    · obtain rfl : n = gl.length := by omega
      have hR := hR1.out (by omega)
      rw [List.take_of_length_le (Nat.le_refl _)] at ho
      clear hR0 hR1 hgood hbad hNs hGs
      replace hR := Lib.hid hR
      have hc1 := Lib.hid (hck.out _ hB.out)
      clear hck
      go_wp2_with fail
      refine hc1.out.mono ?_; rintro e w1 ⟨rfl, hb1⟩
      have hB1 := Lib.hid (below_seq hB.out hb1)
      have hr1 := Lib.hid (hr.out.below hb1)
      have ho1 := Lib.hid (ho.out.below hb1)
      clear hc1 hB hr ho hb1 hcp
      rcases hR.out with ⟨k, rfl, rfl⟩ | ⟨rfl, M, rfl, rfl⟩
      · obtain ⟨k0, k1, k2, kf0, kf1, kf2, kl⟩ := hr1.out
        go_wp2
        have kk' := set3_cell (w := w1) (x := .int .i64 0) (y := .int .i64 0) (z := .bool false) k0 k1 k2
        refine bodyPost_ret (v := .tuple #[spV ⟨0, 0, false⟩, .iface 84 (.int .i64 k)]) (by simp [results, Tryz.results17, go_sem, kk'.1, kk'.2.1, kk'.2.2]) rfl ⟨rfl, set3_below hB1.out (Nat.le_refl _)⟩
      · clear hR
        rw [List.length_map] at h1 hCl
        simp only [List.length_map]
        go_wp2
        go_loopw [73] (fun i wr => ∃ n : Nat, n ≤ M.length ∧ i = .int .i64 n ∧ SpAt wr w.heap.size ⟨0, 0, false⟩ ∧ SpAt wr (w.heap.size + 1) (qS (outN N gl + (M.take n).sum)) ∧ Below w.heap.size w wr) (fun i _ => M.length - (intOf i).toNat)
        case atStart => exact ⟨0, Nat.zero_le _, rfl, hr1.out, (by rw [List.take_zero, List.sum_nil, Int.add_zero]; exact ho1.out), hB1.out⟩
        case round =>
          clear hr1 ho1 hB1
          obtain ⟨n, hn, rfl, hr, ho, hB⟩ := hrel
          have hol := ho.lt
          have hrl := hr.lt
          replace hr := Lib.hid hr
          replace ho := Lib.hid ho
          replace hB := Lib.hid hB
          by_cases hlt : n < M.length
          · obtain ⟨b1, o1, rfl, hs0⟩ := h1.out (by omega)
            have hsL := hs0.below hB.out
            have hjm : n < (M.map qS).length := by rw [List.length_map]; exact hlt
            have l1 := hsL.cx n hjm
            have l2 := hsL.cy n hjm
            have l3 := hsL.cf n hjm
            have l4 := hsL.lt
            rw [List.getElem_map] at l1 l2 l3
            have hsn1 : Hid (qS (outN N gl + (M.take (n + 1)).sum) = sSum (qS (outN N gl + (M.take n).sum)) (qS M[n])) := by
              show _ = _
              rw [qS_add, sumB_snoc M n hlt, Int.add_assoc]
            have oA := qS_ok M[n]
            have oS := qS_ok (outN N gl + (M.take n).sum)
            clear hsL hs0
            generalize qS M[n] = A at *
            generalize qS (outN N gl + (M.take n).sum) = S at *
            generalize hD : qS (outN N gl + (M.take (n + 1)).sum) = D at *
            replace hD := Lib.hid hD
            have hD2 : Hid (sSum S A = D) := Lib.hid hsn1.out.symm
            clear hsn1
            obtain ⟨o0', o1', o2', of0, of1, of2, ol⟩ := ho.out
            go_wp2_with fail
            refine (sum_e S A D _ (hF'.out.below (balloc hB.out _)) oS oA hD2).mono ?_; rintro e w2 ⟨rfl, hb2⟩
            have hr2 := (hr.out.alloc _).below hb2
            have ho2 := (ho.out.alloc _).below hb2
            have ho2' := Lib.hid ho2
            have hB2 := Lib.hid (below_seq (balloc hB.out _) hb2)
            clear l1 l2 l3 l4 o0' o1' o2' of0 of1 of2 ol hb2
            obtain ⟨o0', o1', o2', of0, of1, of2, ol⟩ := ho2
            go_wp2
            go_roundw
            case rel => exact ⟨n + 1, by omega, by go_num, hr2.set3o (by omega) _ _ _, by rw [hD.out]; exact ho2'.out.set3 _, set3_below hB2.out (by omega)⟩
            case measure => simp [intOf]; omega
          · have hne2 : n = M.length := by omega
            rw [hne2, List.take_of_length_le (Nat.le_refl _)] at ho
            obtain ⟨k0, k1, k2, kf0, kf1, kf2, kl⟩ := hr.out
            obtain ⟨o0', o1', o2', of0, of1, of2, ol⟩ := ho.out
            generalize hDe : qS (outN N gl + M.sum) = D at *
            replace hDe := Lib.hid hDe
            go_wp2
            have kk' := set3_cell (w := wr) (x := .int .i64 D.x) (y := .int .i64 D.y) (z := .bool D.far) k0 k1 k2
            refine bodyPost_ret (v := .tuple #[spV D, .nilIface]) (by simp [results, Tryz.results17, go_sem, kk'.1, kk'.2.1, kk'.2.2]) rfl ⟨by rw [hDe.out], set3_below hB.out (Nat.le_refl _)⟩
end Go.Proofs.YtjjmelhhalomaaaGreatDoor
namespace Go.Proofs.YtjjmelhhalomaaaGreatDoor
/-- Of two lists the sum of the products. -/
def dot : List Int → List Int → Int
  | u :: us, c :: cs => u * c + dot us cs
  | _, _ => 0
theorem dot_nil (cs : List Int) : dot [] cs = 0 := by cases cs <;> rfl
theorem dot_snoc : ∀ (us cs : List Int) (n : Nat) (h1 : n < us.length) (h2 : n < cs.length), dot (us.take (n + 1)) cs = dot (us.take n) cs + us[n] * cs[n]
  | [], _, _, h, _ => absurd h (Nat.not_lt_zero _)
  | _ :: _, [], _, _, h => absurd h (Nat.not_lt_zero _)
  | u :: us, c :: cs, 0, _, _ => by simp [dot, dot_nil]
  | u :: us, c :: cs, n + 1, h1, h2 => by
    have := dot_snoc us cs n (by simpa using h1) (by simpa using h2)
    simp only [List.take_succ_cons, dot, List.getElem_cons_succ] at this ⊢
    omega
theorem dot_four : ∀ us cs : List Int, dot (us.map (4 * ·)) cs = 4 * dot us cs
  | [], cs => by simp [dot_nil]
  | _ :: _, [] => by simp [dot]
  | u :: us, c :: cs => by simp only [List.map_cons, dot, dot_four us cs, Int.mul_add, Int.mul_assoc]
/-- The number of each key. -/
def cfs (l : List Sp) : List Int := l.map fun k => hnum (lsB l.length l ++ sBytes k).data.toList
theorem cfs_len (l : List Sp) : (cfs l).length = l.length := by simp [cfs]
theorem cfs_bd (l : List Sp) (i : Nat) (h : i < (cfs l).length) : 0 ≤ (cfs l)[i] ∧ (cfs l)[i] < 1013 := by simp only [cfs, List.getElem_map]; exact hnum_bd _
theorem cfs_get (l : List Sp) (i : Nat) (h : i < l.length) : (cfs l)[i]'(by rw [cfs_len]; exact h) = hnum (lsB l.length l ++ sBytes l[i]).data.toList := by simp only [cfs, List.getElem_map]
/-- Is it a number to sign with. -/
def okB (n : Int) : Bool := decide (1 ≤ n ∧ n < 1013)
/-- What is wrong with those that sign; 0: nothing. -/
def groupF (xs ks : List Int) (n : Nat) : Int := if 12 < xs.length then 4 else if xs.length ≠ ks.length then 3 else if xs.all okB && ks.all okB then (if 60 < n then 4 else 0) else 1
theorem all_at {l : List Int} (h : ∀ i (h : i < l.length), okB l[i] = true) : l.all okB = true := by
  rw [List.all_eq_true]
  intro x hx
  obtain ⟨i, hi, rfl⟩ := List.mem_iff_getElem.mp hx
  exact h i hi
theorem not_all {l : List Int} {i : Nat} (h : i < l.length) (hb : okB l[i] = false) : l.all okB = false := by
  rw [List.all_eq_false]
  exact ⟨l[i], List.getElem_mem h, by rw [hb]; decide⟩
theorem all_get {l : List Int} (h : l.all okB = true) (i : Nat) (hi : i < l.length) : okB l[i] = true := List.all_eq_true.mp h _ (List.getElem_mem hi)
theorem sum_snoc : ∀ (l : List Int) (n : Nat) (h : n < l.length), (l.take (n + 1)).sum = (l.take n).sum + l[n]
  | [], _, h => absurd h (Nat.not_lt_zero _)
  | a :: l, 0, _ => by simp
  | a :: l, n + 1, h => by
    have := sum_snoc l n (by simpa using h)
    simp only [List.take_succ_cons, List.sum_cons, List.getElem_cons_succ] at this ⊢
    omega
theorem sum_bd (l : List Int) (h : ∀ i (h : i < l.length), 1 ≤ l[i] ∧ l[i] < 1013) : ∀ n, n ≤ l.length → 0 ≤ (l.take n).sum ∧ (l.take n).sum ≤ 1012 * n
  | 0, _ => by simp
  | n + 1, hn => by
    have := sum_bd l h n (by omega)
    have := h n (by omega)
    rw [sum_snoc l n (by omega)]
    omega
theorem turn_step (s a c x : Int) : (s + a * c % 1013 * x) % 1013 = (s + a * (x * c)) % 1013 := by
  rw [Int.add_emod, Int.mul_emod (a * c % 1013) x, Int.emod_emod, ← Int.mul_emod, ← Int.add_emod, Int.mul_assoc, Int.mul_comm c x]
/-- One round more of the sum. -/
theorem turn_go {s K a D x c : Int} (h : s % 1013 = (K + a * D) % 1013) : (s + a * c % 1013 * x) % 1013 = (K + a * (D + x * c)) % 1013 := by
  rw [turn_step, Int.mul_add]
  omega
end Go.Proofs.YtjjmelhhalomaaaGreatDoor
namespace Go.Proofs.YtjjmelhhalomaaaGreatDoor
open Go.RowKit
set_option maxRecDepth 100000
set_option linter.unusedVariables false
set_option linter.unusedSimpArgs false
theorem okB_y {n : Int} (h : okB n = true) : 1 ≤ n ∧ n < 1013 := of_decide_eq_true h
theorem okB_n {n : Int} (h : okB n = false) : ¬ (1 ≤ n ∧ n < 1013) := of_decide_eq_false h
theorem list_sl (l : List Sp) (v : Value) (w : World) (hF : FarAt w) (hl : l.length ≤ 12) (hs : SpSl w v l) (hok : ∀ z ∈ l, Ok z) :
    Calls Tryz.prog 93 #[v] w fun e w' => e = .returned (.tuple #[.string (lsB l.length l), .nilIface]) ∧ Below w.heap.size w w' := by
  obtain ⟨a, cap, rfl, hs⟩ := hs
  cases l with
  | nil => exact list_zero a cap w
  | cons s l =>
    obtain ⟨b, off, rfl, hs'⟩ := hs (Nat.succ_pos _)
    exact list_ok (s :: l) b off cap w hF hl hs' (fun i h => hok _ (List.getElem_mem h))
theorem hashNumber_n (s : ByteArray) (n : Int) (w : World) (hs : s.size ≤ 9223372036854775807) (h : Hid (hnum s.data.toList = n)) : Calls Tryz.prog 94 #[.string s] w fun e w' => e = .returned (.int .i64 n) ∧ Below w.heap.size w w' := by
  rw [← h.out]; exact hashNumber_c s w hs
end Go.Proofs.YtjjmelhhalomaaaGreatDoor
namespace Go.Proofs.YtjjmelhhalomaaaGreatDoor
open Go.RowKit
set_option maxRecDepth 100000
set_option linter.unusedVariables false
set_option linter.unusedSimpArgs false
/-- The second base is four times so many. -/
def hJn : Nat := ((List.range 1013).find? fun (j : Nat) => Sp.beq (hSpot [115, 101, 99, 111, 110, 100]) (sq (4 * (j : Int)))).getD 0
def hJ : Int := hJn
theorem hJ_spec : 1 ≤ hJ ∧ hJ < 1013 ∧ hSpot [115, 101, 99, 111, 110, 100] = sq (4 * hJ) := by
  obtain ⟨j, j0, j1, e⟩ := hSpot_four [115, 101, 99, 111, 110, 100]
  have key : hJn < 1013 ∧ hSpot [115, 101, 99, 111, 110, 100] = sq (4 * (hJn : Int)) := by
    unfold hJn
    cases hf : (List.range 1013).find? fun (j : Nat) => Sp.beq (hSpot [115, 101, 99, 111, 110, 100]) (sq (4 * (j : Int))) with
    | none =>
      exfalso
      have := List.find?_eq_none.mp hf j.toNat (List.mem_range.mpr (by omega))
      rw [e, show ((j.toNat : Nat) : Int) = j by omega] at this
      exact this (Sp.beq_refl _)
    | some n =>
      have h1 := List.find?_some hf
      have h2 := List.mem_range.mp (List.mem_of_find?_eq_some hf)
      exact ⟨h2, Sp.beq_iff.mp h1⟩
  refine ⟨?_, by unfold hJ; omega, key.2⟩
  have h := key.2
  rw [e] at h
  have := sq_eq_iff.mp h
  unfold hJ; omega
attribute [irreducible] hJn
set_option maxHeartbeats 1000000 in
theorem second_c (w : World) (hF : FarAt w) : Calls Tryz.prog 50 #[] w fun e w' => e = .returned (spV (sq (4 * hJ))) ∧ Below w.heap.size w w' := by
  go_enter Tryz.func50, Tryz.ntmps50
  go_wp2_with fail
  refine (hashSpot_c ⟨#[115, 101, 99, 111, 110, 100]⟩ _ (hF.below (by repeat (first | exact Below.refl _ _ | refine balloc ?_ _ | refine Below.drew ?_ | refine below_drewN ?_ _ | refine below_set ?_ (by first | omega | (dsimp only; omega)) _))) (by show 6 ≤ _; omega)).mono ?_; rintro e w1 ⟨rfl, hb⟩
  rw [show hSpot (⟨#[115, 101, 99, 111, 110, 100]⟩ : ByteArray).data.toList = sq (4 * hJ) from hJ_spec.2.2]
  obtain ⟨hc1, hf1⟩ := bcell hb
  have z1 := hb.size
  try simp only [World.size_alloc, World.size_setCell, World.size_drew] at z1
  have s1_0 : w.heap.size < w1.heap.size := by omega
  have hB1 : Below w.heap.size w w1 := below_seq (by repeat (first | exact Below.refl _ _ | refine balloc ?_ _ | refine Below.drew ?_ | refine below_drewN ?_ _ | refine below_set ?_ (by first | omega | (dsimp only; omega)) _)) hb
  clear hb
  have r0 : w1.cell? ⟨w.heap.size, 0, none⟩ = some (.int .i64 0) := by go_simp
  have r1 : w1.cell? ⟨w.heap.size, 1, none⟩ = some (.int .i64 0) := by go_simp
  have r2 : w1.cell? ⟨w.heap.size, 2, none⟩ = some (.bool false) := by go_simp
  go_wp2
  have k := set3_cell (w := w1) (x := .int .i64 (sq (4 * hJ)).x) (y := .int .i64 (sq (4 * hJ)).y) (z := .bool (sq (4 * hJ)).far) r0 r1 r2
  refine bodyPost_ret (v := spV (sq (4 * hJ))) (by simp [results, Tryz.results50, go_sem, k.1, k.2.1, k.2.2]) rfl ⟨rfl, set3_below (by repeat (first | exact hB1 | exact Below.refl _ _ | refine balloc ?_ _ | refine Below.drew ?_ | refine below_drewN ?_ _ | refine below_set ?_ (by first | omega | (dsimp only; omega)) _)) (by omega)⟩
set_option maxHeartbeats 1000000 in
theorem hideOf_c (v r : Int) (w : World) (hF : FarAt w) : Calls Tryz.prog 43 #[.int .i64 v, .int .i64 r] w fun e w' => e = .returned (spV (sq (4 * v + 4 * hJ * r))) ∧ Below w.heap.size w w' := by
  have hs := Lib.hid (sq_add (4 * v) (4 * hJ * r))
  go_enter Tryz.func43, Tryz.ntmps43
  go_wp2_with fail
  refine (by_c v _ (hF.below (by repeat (first | exact Below.refl _ _ | refine balloc ?_ _ | refine Below.drew ?_ | refine below_drewN ?_ _ | refine below_set ?_ (by first | omega | (dsimp only; omega)) _)))).mono ?_; rintro e w1 ⟨rfl, hb⟩
  obtain ⟨hc1, hf1⟩ := bcell hb
  have z1 := hb.size
  try simp only [World.size_alloc, World.size_setCell, World.size_drew] at z1
  have s1_0 : w.heap.size < w1.heap.size := by omega
  have hB1 : Below w.heap.size w w1 := below_seq (by repeat (first | exact Below.refl _ _ | refine balloc ?_ _ | refine Below.drew ?_ | refine below_drewN ?_ _ | refine below_set ?_ (by first | omega | (dsimp only; omega)) _)) hb
  clear hb
  go_wp2_with fail
  refine (second_c _ (hF.below (by repeat (first | exact hB1 | exact Below.refl _ _ | refine balloc ?_ _ | refine Below.drew ?_ | refine below_drewN ?_ _ | refine below_set ?_ (by first | omega | (dsimp only; omega)) _)))).mono ?_; rintro e w2 ⟨rfl, hb⟩
  obtain ⟨hc2, hf2⟩ := bcell hb
  have z2 := hb.size
  try simp only [World.size_alloc, World.size_setCell, World.size_drew] at z2
  have s2_0 : w.heap.size < w2.heap.size := by omega
  have hB2 : Below w.heap.size w w2 := below_seq (by repeat (first | exact hB1 | exact Below.refl _ _ | refine balloc ?_ _ | refine Below.drew ?_ | refine below_drewN ?_ _ | refine below_set ?_ (by first | omega | (dsimp only; omega)) _)) hb
  clear hb
  go_wp2_with fail
  refine (timesOf_c (4 * hJ) r _ (hF.below (by repeat (first | exact hB2 | exact Below.refl _ _ | refine balloc ?_ _ | refine Below.drew ?_ | refine below_drewN ?_ _ | refine below_set ?_ (by first | omega | (dsimp only; omega)) _)))).mono ?_; rintro e w3 ⟨rfl, hb⟩
  obtain ⟨hc3, hf3⟩ := bcell hb
  have z3 := hb.size
  try simp only [World.size_alloc, World.size_setCell, World.size_drew] at z3
  have s3_0 : w.heap.size < w3.heap.size := by omega
  have hB3 : Below w.heap.size w w3 := below_seq (by repeat (first | exact hB2 | exact Below.refl _ _ | refine balloc ?_ _ | refine Below.drew ?_ | refine below_drewN ?_ _ | refine below_set ?_ (by first | omega | (dsimp only; omega)) _)) hb
  clear hb
  go_wp2_with fail
  refine (sum_e _ _ _ _ (hF.below (by repeat (first | exact hB3 | exact Below.refl _ _ | refine balloc ?_ _ | refine Below.drew ?_ | refine below_drewN ?_ _ | refine below_set ?_ (by first | omega | (dsimp only; omega)) _))) (sq_ok _) (sq_ok _) hs).mono ?_; rintro e w4 ⟨rfl, hb⟩
  obtain ⟨hc4, hf4⟩ := bcell hb
  have z4 := hb.size
  try simp only [World.size_alloc, World.size_setCell, World.size_drew] at z4
  have s4_0 : w.heap.size < w4.heap.size := by omega
  have hB4 : Below w.heap.size w w4 := below_seq (by repeat (first | exact hB3 | exact Below.refl _ _ | refine balloc ?_ _ | refine Below.drew ?_ | refine below_drewN ?_ _ | refine below_set ?_ (by first | omega | (dsimp only; omega)) _)) hb
  clear hb
  have r0 : w4.cell? ⟨w.heap.size, 0, none⟩ = some (.int .i64 0) := by go_simp
  have r1 : w4.cell? ⟨w.heap.size, 1, none⟩ = some (.int .i64 0) := by go_simp
  have r2 : w4.cell? ⟨w.heap.size, 2, none⟩ = some (.bool false) := by go_simp
  go_wp2
  have k := set3_cell (w := w4) (x := .int .i64 (sq (4 * v + 4 * hJ * r)).x) (y := .int .i64 (sq (4 * v + 4 * hJ * r)).y) (z := .bool (sq (4 * v + 4 * hJ * r)).far) r0 r1 r2
  refine bodyPost_ret (v := spV (sq (4 * v + 4 * hJ * r))) (by simp [results, Tryz.results43, go_sem, k.1, k.2.1, k.2.2]) rfl ⟨rfl, set3_below (by repeat (first | exact hB4 | exact Below.refl _ _ | refine balloc ?_ _ | refine Below.drew ?_ | refine below_drewN ?_ _ | refine below_set ?_ (by first | omega | (dsimp only; omega)) _)) (by omega)⟩
set_option maxHeartbeats 1000000 in
theorem hide_y (v r : Int) (C : Sp) (w : World) (hF : FarAt w) (v0 : 0 ≤ v) (v1 : v < 1013) (r0 : 0 ≤ r) (r1 : r < 1013) (hC : Hid (sq (4 * v + 4 * hJ * r) = C)) : Calls Tryz.prog 14 #[.int .i64 v, .int .i64 r] w fun e w' => e = .returned (.tuple #[spV C, .nilIface]) ∧ Below w.heap.size w w' := by
  go_enter Tryz.func14, Tryz.ntmps14
  go_wp2_with fail
  refine (rest_y v _ v0 v1).mono ?_; rintro e w' ⟨rfl, rfl⟩
  go_wp2_with fail
  refine (rest_y r _ r0 r1).mono ?_; rintro e w' ⟨rfl, rfl⟩
  clear r0 r1 v0 v1
  go_wp2_with fail
  refine (hideOf_c v r _ (hF.below (by repeat (first | exact Below.refl _ _ | refine balloc ?_ _ | refine Below.drew ?_ | refine below_drewN ?_ _ | refine below_set ?_ (by first | omega | (dsimp only; omega)) _)))).mono ?_; rintro e w1 ⟨rfl, hb⟩
  rw [hC.out]
  obtain ⟨hc1, hf1⟩ := bcell hb
  have z1 := hb.size
  try simp only [World.size_alloc, World.size_setCell, World.size_drew] at z1
  have s1_0 : w.heap.size < w1.heap.size := by omega
  have hB1 : Below w.heap.size w w1 := below_seq (by repeat (first | exact Below.refl _ _ | refine balloc ?_ _ | refine Below.drew ?_ | refine below_drewN ?_ _ | refine below_set ?_ (by first | omega | (dsimp only; omega)) _)) hb
  clear hb
  have r0 : w1.cell? ⟨w.heap.size, 0, none⟩ = some (.int .i64 0) := by go_simp
  have r1 : w1.cell? ⟨w.heap.size, 1, none⟩ = some (.int .i64 0) := by go_simp
  have r2 : w1.cell? ⟨w.heap.size, 2, none⟩ = some (.bool false) := by go_simp
  go_wp2
  have k := set3_cell (w := w1) (x := .int .i64 (C).x) (y := .int .i64 (C).y) (z := .bool (C).far) r0 r1 r2
  refine bodyPost_ret (v := .tuple #[spV (C), .nilIface]) (by simp [results, Tryz.results14, go_sem, k.1, k.2.1, k.2.2]) rfl ⟨rfl, set3_below (by repeat (first | exact hB1 | exact Below.refl _ _ | refine balloc ?_ _ | refine Below.drew ?_ | refine below_drewN ?_ _ | refine below_set ?_ (by first | omega | (dsimp only; omega)) _)) (by omega)⟩
set_option maxHeartbeats 1000000 in
theorem hide_n1 (v r : Int) (w : World) (h : ¬ (0 ≤ v ∧ v < 1013)) : Calls Tryz.prog 14 #[.int .i64 v, .int .i64 r] w fun e w' => e = .returned (.tuple #[spV ⟨0, 0, false⟩, .iface 84 (.int .i64 1)]) ∧ Below w.heap.size w w' := by
  go_enter Tryz.func14, Tryz.ntmps14
  go_wp2_with fail
  refine (rest_n v _ h).mono ?_; rintro e w' ⟨rfl, rfl⟩
  go_wp2
  refine bodyPost_ret (v := .tuple #[spV ⟨0, 0, false⟩, .iface 84 (.int .i64 1)]) (by simp [results, Tryz.results14, go_sem]) rfl ⟨rfl, (by repeat (first | exact Below.refl _ _ | refine balloc ?_ _ | refine Below.drew ?_ | refine below_drewN ?_ _ | refine below_set ?_ (by first | omega | (dsimp only; omega)) _))⟩
set_option maxHeartbeats 1000000 in
theorem hide_n2 (v r : Int) (w : World) (v0 : 0 ≤ v) (v1 : v < 1013) (h : ¬ (0 ≤ r ∧ r < 1013)) : Calls Tryz.prog 14 #[.int .i64 v, .int .i64 r] w fun e w' => e = .returned (.tuple #[spV ⟨0, 0, false⟩, .iface 84 (.int .i64 1)]) ∧ Below w.heap.size w w' := by
  go_enter Tryz.func14, Tryz.ntmps14
  go_wp2_with fail
  refine (rest_y v _ v0 v1).mono ?_; rintro e w' ⟨rfl, rfl⟩
  go_wp2_with fail
  refine (rest_n r _ h).mono ?_; rintro e w' ⟨rfl, rfl⟩
  go_wp2
  refine bodyPost_ret (v := .tuple #[spV ⟨0, 0, false⟩, .iface 84 (.int .i64 1)]) (by simp [results, Tryz.results14, go_sem]) rfl ⟨rfl, (by repeat (first | exact Below.refl _ _ | refine balloc ?_ _ | refine Below.drew ?_ | refine below_drewN ?_ _ | refine below_set ?_ (by first | omega | (dsimp only; omega)) _))⟩
theorem hide_n (v r : Int) (w : World) (h : ¬ (0 ≤ v ∧ v < 1013 ∧ 0 ≤ r ∧ r < 1013)) : Calls Tryz.prog 14 #[.int .i64 v, .int .i64 r] w fun e w' => e = .returned (.tuple #[spV ⟨0, 0, false⟩, .iface 84 (.int .i64 1)]) ∧ Below w.heap.size w w' := by
  by_cases hv : 0 ≤ v ∧ v < 1013
  · exact hide_n2 v r w hv.1 hv.2 (by omega)
  · exact hide_n1 v r w hv
set_option maxHeartbeats 1000000 in
theorem open_y (c C : Sp) (v r : Int) (b : Bool) (w : World) (hF : FarAt w) (hc : Ok c) (v0 : 0 ≤ v) (v1 : v < 1013) (r0 : 0 ≤ r) (r1 : r < 1013) (hC : Hid (sq (4 * v + 4 * hJ * r) = C)) (hb : Sp.beq C c = b) : Calls Tryz.prog 23 #[spV c, .int .i64 v, .int .i64 r] w fun e w' => e = .returned (.tuple #[.bool b, .nilIface]) ∧ Below w.heap.size w w' := by
  go_enter Tryz.func23, Tryz.ntmps23
  go_wp2_with fail
  refine (check_ok c _ (hF.below (by repeat (first | exact Below.refl _ _ | refine balloc ?_ _ | refine Below.drew ?_ | refine below_drewN ?_ _ | refine below_set ?_ (by first | omega | (dsimp only; omega)) _))) hc).mono ?_; rintro e w1 ⟨rfl, hb⟩
  obtain ⟨hc1, hf1⟩ := bcell hb
  have z1 := hb.size
  try simp only [World.size_alloc, World.size_setCell, World.size_drew] at z1
  have s1_0 : w.heap.size < w1.heap.size := by omega
  have hB1 : Below w.heap.size w w1 := below_seq (by repeat (first | exact Below.refl _ _ | refine balloc ?_ _ | refine Below.drew ?_ | refine below_drewN ?_ _ | refine below_set ?_ (by first | omega | (dsimp only; omega)) _)) hb
  clear hb
  go_wp2_with fail
  refine (hide_y v r C _ (hF.below (by repeat (first | exact hB1 | exact Below.refl _ _ | refine balloc ?_ _ | refine Below.drew ?_ | refine below_drewN ?_ _ | refine below_set ?_ (by first | omega | (dsimp only; omega)) _))) v0 v1 r0 r1 hC).mono ?_; rintro e w2 ⟨rfl, hb⟩
  obtain ⟨hc2, hf2⟩ := bcell hb
  have z2 := hb.size
  try simp only [World.size_alloc, World.size_setCell, World.size_drew] at z2
  have s2_0 : w.heap.size < w2.heap.size := by omega
  have hB2 : Below w.heap.size w w2 := below_seq (by repeat (first | exact hB1 | exact Below.refl _ _ | refine balloc ?_ _ | refine Below.drew ?_ | refine below_drewN ?_ _ | refine below_set ?_ (by first | omega | (dsimp only; omega)) _)) hb
  clear hb
  go_wp2
  go_ret2
  exact ⟨rfl, (by repeat (first | exact hB2 | exact Below.refl _ _ | refine balloc ?_ _ | refine Below.drew ?_ | refine below_drewN ?_ _ | refine below_set ?_ (by first | omega | (dsimp only; omega)) _))⟩
end Go.Proofs.YtjjmelhhalomaaaGreatDoor
namespace Go.Proofs.YtjjmelhhalomaaaGreatDoor
open Go.RowKit
set_option maxRecDepth 100000
set_option linter.unusedVariables false
set_option linter.unusedSimpArgs false
@[go_sem] theorem field_far4 (x y : Value) (f : Bool) (w : World) : Sem.run Tryz.prog (Instr.field 28 (.agg #[x, y, .bool f]) 2) w = .ok (.bool f) w := by kernel_rfl
set_option maxHeartbeats 1000000 in
theorem sealCheck_ok (key R : Sp) (S : Int) (t : ByteArray) (w : World) (hF : FarAt w) (hk : Ok key) (hR : Ok R) (hz : t.size ≤ 60) (s0 : 0 ≤ S) (s1 : S < 1013) :
    Calls Tryz.prog 85 #[spV key, .string t, slV R S] w fun e w' => e = .returned .nilIface ∧ Below w.heap.size w w' := by
  go_enter Tryz.func85, Tryz.ntmps85
  go_wp2_with fail
  refine (text_y t _ hz).mono ?_; rintro e w' ⟨rfl, rfl⟩
  go_wp2_with fail
  refine (all_ok [key, R] _ 0 2 _ (hF.below (by repeat (first | exact Below.refl _ _ | refine balloc ?_ _ | refine Below.drew ?_ | refine below_drewN ?_ _ | refine below_set ?_ (by first | omega | (dsimp only; omega)) _))) (by simp) (spots_two key R _ _ (by simp) (by go_simp) (by go_simp) (by go_simp) (by go_simp) (by go_simp) (by go_simp)) (ok_two hk hR)).mono ?_; rintro e w1 ⟨rfl, hb⟩
  obtain ⟨hc1, hf1⟩ := bcell hb
  have z1 := hb.size
  try simp only [World.size_alloc, World.size_setCell, World.size_drew] at z1
  have s1_0 : w.heap.size < w1.heap.size := by omega
  have s1_1 : w.heap.size + 1 < w1.heap.size := by omega
  have s1_2 : w.heap.size + 1 + 1 < w1.heap.size := by omega
  have hB1 : Below w.heap.size w w1 := below_seq (by repeat (first | exact Below.refl _ _ | refine balloc ?_ _ | refine Below.drew ?_ | refine below_drewN ?_ _ | refine below_set ?_ (by first | omega | (dsimp only; omega)) _)) hb
  clear hb
  go_wp2_with fail
  refine (rest_y S _ s0 s1).mono ?_; rintro e w' ⟨rfl, rfl⟩
  go_wp2
  go_ret
  exact ⟨rfl, (by repeat (first | exact hB1 | exact Below.refl _ _ | refine balloc ?_ _ | refine Below.drew ?_ | refine below_drewN ?_ _ | refine below_set ?_ (by first | omega | (dsimp only; omega)) _))⟩
set_option maxHeartbeats 2000000 in
theorem sealOff_ok (key R B C D E Z : Sp) (a c S : Int) (t : ByteArray) (w : World) (hF : FarAt w) (hk : Ok key) (hR : Ok R) (hz : t.size ≤ 60) (hc : Hid (askN R key t.data.toList = c)) (ha : Hid (key = sq a))
    (hB : Hid (sq (4 * S) = B)) (hC : Hid (sq (a * c) = C)) (hD : Hid (sSum R C = D)) (hE : Hid (sTurned D = E)) (hZ : Hid (sSum B E = Z)) (oB : Ok B) (oC : Ok C) (oD : Ok D) (oE : Ok E) :
    Calls Tryz.prog 86 #[spV key, .string t, slV R S] w fun e w' => e = .returned (spV Z) ∧ Below w.heap.size w w' := by
  go_enter Tryz.func86, Tryz.ntmps86
  go_wp2_with fail
  refine (ask_e R key t c _ hR hk hz hc).mono ?_; rintro e w1 ⟨rfl, hb⟩
  obtain ⟨hc1, hf1⟩ := bcell hb
  have z1 := hb.size
  try simp only [World.size_alloc, World.size_setCell, World.size_drew] at z1
  have s1_0 : w.heap.size < w1.heap.size := by omega
  have s1_1 : w.heap.size + 1 < w1.heap.size := by omega
  have s1_2 : w.heap.size + 1 + 1 < w1.heap.size := by omega
  have hB1 : Below w.heap.size w w1 := below_seq (by repeat (first | exact Below.refl _ _ | refine balloc ?_ _ | refine Below.drew ?_ | refine below_drewN ?_ _ | refine below_set ?_ (by first | omega | (dsimp only; omega)) _)) hb
  clear hb
  go_wp2_with fail
  refine wp_region_grow_tail 11 Tryz.mixed (by kernel_rfl) ?_
  simp only [List.take_succ_cons, List.take_zero, List.drop_succ_cons, List.drop_zero]
  repeat (quiet_step ((first | (go_at_call 82; exact grow_of (by_e S B _ (hF.below (below_seq (by repeat (first | exact hB1 | exact Below.refl _ _ | refine balloc ?_ _ | refine Below.drew ?_ | refine below_drewN ?_ _ | refine below_set ?_ (by first | omega | (dsimp only; omega)) _)) (Grew.h _))) hB)) | (go_at_call 37; exact grow_of (of_e key C a c _ (hF.below (below_seq (by repeat (first | exact hB1 | exact Below.refl _ _ | refine balloc ?_ _ | refine Below.drew ?_ | refine below_drewN ?_ _ | refine below_set ?_ (by first | omega | (dsimp only; omega)) _)) (Grew.h _))) ha hC)) | (go_at_call 48; exact grow_of (turned_e D E _ oD hE)) | (go_at_call_of 47 R.x; exact grow_of (sum_e R C D _ (hF.below (below_seq (by repeat (first | exact hB1 | exact Below.refl _ _ | refine balloc ?_ _ | refine Below.drew ?_ | refine below_drewN ?_ _ | refine below_set ?_ (by first | omega | (dsimp only; omega)) _)) (Grew.h _))) hR oC hD)) | (go_at_call 47; exact grow_of (sum_e B E Z _ (hF.below (below_seq (by repeat (first | exact hB1 | exact Below.refl _ _ | refine balloc ?_ _ | refine Below.drew ?_ | refine below_drewN ?_ _ | refine below_set ?_ (by first | omega | (dsimp only; omega)) _)) (Grew.h _))) oB oE hZ)))))
  refine wpQuiet_nil ?_
  intro _ hw'
  obtain ⟨x2, rfl⟩ := hw'
  have z2 := x2.h.size
  try simp only [World.size_alloc, World.size_setCell, World.size_drew] at z2
  have s2_0 : w.heap.size < x2.w.heap.size := by omega
  have s2_1 : w.heap.size + 1 < x2.w.heap.size := by omega
  have s2_2 : w.heap.size + 1 + 1 < x2.w.heap.size := by omega
  have hB2 : Below w.heap.size w x2.w := below_seq (by repeat (first | exact hB1 | exact Below.refl _ _ | refine balloc ?_ _ | refine Below.drew ?_ | refine below_drewN ?_ _ | refine below_set ?_ (by first | omega | (dsimp only; omega)) _)) x2.h
  have r0 : x2.w.cell? ⟨w.heap.size + 1 + 1, 0, none⟩ = some (.int .i64 0) := by go_simp
  have r1 : x2.w.cell? ⟨w.heap.size + 1 + 1, 1, none⟩ = some (.int .i64 0) := by go_simp
  have r2 : x2.w.cell? ⟨w.heap.size + 1 + 1, 2, none⟩ = some (.bool false) := by go_simp
  go_wp2
  have k := set3_cell (w := x2.w) (x := .int .i64 (Z).x) (y := .int .i64 (Z).y) (z := .bool (Z).far) r0 r1 r2
  refine bodyPost_ret (v := spV (Z)) (by simp [results, Tryz.results86, go_sem, k.1, k.2.1, k.2.2]) rfl ⟨rfl, set3_below (by repeat (first | exact hB2 | exact Below.refl _ _ | refine balloc ?_ _ | refine Below.drew ?_ | refine below_drewN ?_ _ | refine below_set ?_ (by first | omega | (dsimp only; omega)) _)) (by omega)⟩
set_option maxHeartbeats 1000000 in
theorem sealVerify_ok (key R Z : Sp) (S : Int) (b : Bool) (t : ByteArray) (w : World) (hF : FarAt w) (hk : Ok key) (hR : Ok R) (hz : t.size ≤ 60) (s0 : 0 ≤ S) (s1 : S < 1013)
    (hO : Hid (∀ w1 : World, FarAt w1 → Calls Tryz.prog 86 #[spV key, .string t, slV R S] w1 fun e w' => e = .returned (spV Z) ∧ Below w1.heap.size w1 w')) (hb : Z.far = b) :
    Calls Tryz.prog 41 #[spV key, .string t, slV R S] w fun e w' => e = .returned (.tuple #[.bool b, .nilIface]) ∧ Below w.heap.size w w' := by
  subst hb
  go_enter Tryz.func41, Tryz.ntmps41
  go_wp2_with fail
  refine (sealCheck_ok key R S t _ (hF.below (by repeat (first | exact Below.refl _ _ | refine balloc ?_ _ | refine Below.drew ?_ | refine below_drewN ?_ _ | refine below_set ?_ (by first | omega | (dsimp only; omega)) _))) hk hR hz s0 s1).mono ?_; rintro e w1 ⟨rfl, hb⟩
  obtain ⟨hc1, hf1⟩ := bcell hb
  have z1 := hb.size
  try simp only [World.size_alloc, World.size_setCell, World.size_drew] at z1
  have s1_0 : w.heap.size < w1.heap.size := by omega
  have s1_1 : w.heap.size + 1 < w1.heap.size := by omega
  have hB1 : Below w.heap.size w w1 := below_seq (by repeat (first | exact Below.refl _ _ | refine balloc ?_ _ | refine Below.drew ?_ | refine below_drewN ?_ _ | refine below_set ?_ (by first | omega | (dsimp only; omega)) _)) hb
  clear hb
  go_wp2_with fail
  refine (hO.out _ (hF.below (by repeat (first | exact hB1 | exact Below.refl _ _ | refine balloc ?_ _ | refine Below.drew ?_ | refine below_drewN ?_ _ | refine below_set ?_ (by first | omega | (dsimp only; omega)) _)))).mono ?_; rintro e w2 ⟨rfl, hb⟩
  obtain ⟨hc2, hf2⟩ := bcell hb
  have z2 := hb.size
  try simp only [World.size_alloc, World.size_setCell, World.size_drew] at z2
  have s2_0 : w.heap.size < w2.heap.size := by omega
  have s2_1 : w.heap.size + 1 < w2.heap.size := by omega
  have hB2 : Below w.heap.size w w2 := below_seq (by repeat (first | exact hB1 | exact Below.refl _ _ | refine balloc ?_ _ | refine Below.drew ?_ | refine below_drewN ?_ _ | refine below_set ?_ (by first | omega | (dsimp only; omega)) _)) hb
  clear hb
  go_wp2
  go_ret2
  exact ⟨rfl, (by repeat (first | exact hB2 | exact Below.refl _ _ | refine balloc ?_ _ | refine Below.drew ?_ | refine below_drewN ?_ _ | refine below_set ?_ (by first | omega | (dsimp only; omega)) _))⟩
/-- What a seal comes to: of the key sq a and the spot sq r. -/
theorem verify_e (key R : Sp) (a r c S : Int) (b : Bool) (t : ByteArray) (w : World) (hF : FarAt w) (hz : t.size ≤ 60) (s0 : 0 ≤ S) (s1 : S < 1013) (ha : Hid (key = sq a)) (hr : Hid (R = sq r)) (hc : Hid (askN R key t.data.toList = c)) (hb : Hid ((sq (4 * S + -(r + a * c))).far = b)) :
    Calls Tryz.prog 41 #[spV key, .string t, slV R S] w fun e w' => e = .returned (.tuple #[.bool b, .nilIface]) ∧ Below w.heap.size w w' := by
  have oR : Ok R := ok_of hr.out
  have oK : Ok key := ok_of ha.out
  refine sealVerify_ok key R _ S b t w hF oK oR hz s0 s1 (fun w1 hF1 => sealOff_ok key R _ _ (sq (r + a * c)) _ (sq (4 * S + -(r + a * c))) a c S t w1 hF1 oK oR hz hc ha rfl rfl ?_ rfl ?_ (sq_ok _) (sq_ok _) (sq_ok _) (turned_ok (sq_ok _)).1) hb.out
  · show _ = _; rw [hr.out, sq_add]
  · show _ = _; rw [sq_neg, sq_add]
end Go.Proofs.YtjjmelhhalomaaaGreatDoor
namespace Go.Proofs.YtjjmelhhalomaaaGreatDoor
open Go.RowKit
set_option maxRecDepth 100000
set_option linter.unusedVariables false
set_option linter.unusedSimpArgs false
set_option maxHeartbeats 1000000 in
theorem sign_n1 (x k : Int) (t : ByteArray) (w : World) (h : ¬ (1 ≤ x ∧ x < 1013)) : Calls Tryz.prog 40 #[.int .i64 x, .int .i64 k, .string t] w fun e w' => e = .returned (.tuple #[slV ⟨0, 0, false⟩ 0, .iface 84 (.int .i64 1)]) ∧ Below w.heap.size w w' := by
  go_enter Tryz.func40, Tryz.ntmps40
  go_wp2_with fail
  refine (secret_n x _ h).mono ?_; rintro e w' ⟨rfl, rfl⟩
  go_wp2
  refine bodyPost_ret (v := .tuple #[slV ⟨0, 0, false⟩ 0, .iface 84 (.int .i64 1)]) (by simp [results, Tryz.results40, go_sem]) rfl ⟨rfl, (by repeat (first | exact Below.refl _ _ | refine balloc ?_ _ | refine Below.drew ?_ | refine below_drewN ?_ _ | refine below_set ?_ (by first | omega | (dsimp only; omega)) _))⟩
set_option maxHeartbeats 1000000 in
theorem sign_n2 (x k : Int) (t : ByteArray) (w : World) (x1 : 1 ≤ x) (x2 : x < 1013) (h : ¬ (1 ≤ k ∧ k < 1013)) : Calls Tryz.prog 40 #[.int .i64 x, .int .i64 k, .string t] w fun e w' => e = .returned (.tuple #[slV ⟨0, 0, false⟩ 0, .iface 84 (.int .i64 1)]) ∧ Below w.heap.size w w' := by
  go_enter Tryz.func40, Tryz.ntmps40
  go_wp2_with fail
  refine (secret_y x _ x1 x2).mono ?_; rintro e w' ⟨rfl, rfl⟩
  go_wp2_with fail
  refine (secret_n k _ h).mono ?_; rintro e w' ⟨rfl, rfl⟩
  go_wp2
  refine bodyPost_ret (v := .tuple #[slV ⟨0, 0, false⟩ 0, .iface 84 (.int .i64 1)]) (by simp [results, Tryz.results40, go_sem]) rfl ⟨rfl, (by repeat (first | exact Below.refl _ _ | refine balloc ?_ _ | refine Below.drew ?_ | refine below_drewN ?_ _ | refine below_set ?_ (by first | omega | (dsimp only; omega)) _))⟩
set_option maxHeartbeats 1000000 in
theorem sign_n3 (x k : Int) (t : ByteArray) (w : World) (x1 : 1 ≤ x) (x2 : x < 1013) (k1 : 1 ≤ k) (k2 : k < 1013) (h : 60 < t.size) (hz : t.size ≤ 140737488351232) : Calls Tryz.prog 40 #[.int .i64 x, .int .i64 k, .string t] w fun e w' => e = .returned (.tuple #[slV ⟨0, 0, false⟩ 0, .iface 84 (.int .i64 4)]) ∧ Below w.heap.size w w' := by
  go_enter Tryz.func40, Tryz.ntmps40
  go_wp2_with fail
  refine (secret_y x _ x1 x2).mono ?_; rintro e w' ⟨rfl, rfl⟩
  go_wp2_with fail
  refine (secret_y k _ k1 k2).mono ?_; rintro e w' ⟨rfl, rfl⟩
  go_wp2_with fail
  refine (text_n t _ h hz).mono ?_; rintro e w' ⟨rfl, rfl⟩
  go_wp2
  refine bodyPost_ret (v := .tuple #[slV ⟨0, 0, false⟩ 0, .iface 84 (.int .i64 4)]) (by simp [results, Tryz.results40, go_sem]) rfl ⟨rfl, (by repeat (first | exact Below.refl _ _ | refine balloc ?_ _ | refine Below.drew ?_ | refine below_drewN ?_ _ | refine below_set ?_ (by first | omega | (dsimp only; omega)) _))⟩
/-- A seal refused, for whatever reason. -/
theorem sign_n (x k : Int) (t : ByteArray) (hz : t.size ≤ 140737488351232) (h : ¬ (1 ≤ x ∧ x < 1013 ∧ 1 ≤ k ∧ k < 1013 ∧ t.size ≤ 60)) : ∃ E : Int, ∀ w : World, Calls Tryz.prog 40 #[.int .i64 x, .int .i64 k, .string t] w fun e w' => e = .returned (.tuple #[slV ⟨0, 0, false⟩ 0, .iface 84 (.int .i64 E)]) ∧ Below w.heap.size w w' := by
  by_cases hx : 1 ≤ x ∧ x < 1013
  · by_cases hk : 1 ≤ k ∧ k < 1013
    · exact ⟨4, fun w => sign_n3 x k t w hx.1 hx.2 hk.1 hk.2 (by omega) hz⟩
    · exact ⟨1, fun w => sign_n2 x k t w hx.1 hx.2 hk⟩
  · exact ⟨1, fun w => sign_n1 x k t w hx⟩
theorem mul_q {c x : Int} (c0 : 0 ≤ c) (c1 : c < 1013) (x0 : 1 ≤ x) (x1 : x < 1013) : 0 ≤ c * x ∧ c * x ≤ 1024144 := by
  refine ⟨Int.mul_nonneg c0 (by omega), ?_⟩
  have : c * x ≤ 1012 * 1012 := Int.mul_le_mul (by omega) (by omega) (by omega) (by decide)
  omega
/-- A seal, all right. -/
theorem sign_e (x k : Int) (t : ByteArray) (R K : Sp) (c S : Int) (w : World) (hF : FarAt w) (x1 : 1 ≤ x) (x2 : x < 1013) (k1 : 1 ≤ k) (k2 : k < 1013) (hz : t.size ≤ 60) (hR : Hid (sq (4 * k) = R)) (hK : Hid (sq (4 * x) = K)) (hc : Hid (askN R K t.data.toList = c)) (hS : Hid ((k + c * x) % 1013 = S)) :
    Calls Tryz.prog 40 #[.int .i64 x, .int .i64 k, .string t] w fun e w' => e = .returned (.tuple #[slV R S, .nilIface]) ∧ Below w.heap.size w w' := by
  have hb := askN_bd R K t.data.toList
  rw [hc.out] at hb
  have hm := mul_q hb.1 hb.2 x1 x2
  exact sign_ok x k t R K c S w hF x1 x2 k1 k2 hz hR hK (ok_of hR.out.symm) (ok_of hK.out.symm) hc (IntWalk.i64_in _ (by omega)) (IntWalk.i64_in _ (by omega)) (by rw [Int.tmod_eq_emod_of_nonneg (by omega)]; exact hS.out)
theorem tmod_q (n : Int) : -1012 ≤ n.tmod 1013 ∧ n.tmod 1013 ≤ 1012 := by
  have h1 := Int.tmod_lt_of_pos n (b := 1013) (by decide)
  have h2 := Int.lt_tmod_of_pos n (b := 1013) (by decide)
  omega
theorem tmod_qe (n : Int) : n.tmod 1013 % 1013 = n % 1013 := by
  have := Int.mul_tdiv_add_tmod n 1013; omega
set_option maxHeartbeats 1000000 in
theorem refMod_q (n : Int) (w : World) (n0 : -9223372036854775808 ≤ n) (n1 : n ≤ 9223372036854775807) : Calls Tryz.prog 19 #[.int .i64 n, .int .i64 1013] w fun e w' => e = .returned (.int .i64 (n % 1013)) ∧ w = w' := by
  have hb := tmod_q n
  obtain ⟨hb1, hb2⟩ := hb
  have he := Lib.hid (tmod_qe n)
  by_cases h : n.tmod 1013 < 0
  · go_enter Tryz.func19, Tryz.ntmps19
    go_wp2
    go_ret
    exact ⟨ret_int (by have := he.out; omega), rfl⟩
  · go_enter Tryz.func19, Tryz.ntmps19
    go_wp2
    go_ret
    exact ⟨ret_int (by have := he.out; omega), rfl⟩
end Go.Proofs.YtjjmelhhalomaaaGreatDoor
namespace Go.Proofs.YtjjmelhhalomaaaGreatDoor
open Go.RowKit
set_option maxRecDepth 100000
set_option linter.unusedVariables false
set_option linter.unusedSimpArgs false
/-- What seal.Off comes to. -/
theorem off_e (key R : Sp) (a r c S : Int) (t : ByteArray) (hz : t.size ≤ 60) (ha : Hid (key = sq a)) (hr : Hid (R = sq r)) (hc : Hid (askN R key t.data.toList = c)) (w : World) (hF : FarAt w) :
    Calls Tryz.prog 86 #[spV key, .string t, slV R S] w fun e w' => e = .returned (spV (sq (4 * S + -(r + a * c)))) ∧ Below w.heap.size w w' := by
  have oR : Ok R := ok_of hr.out
  have oK : Ok key := ok_of ha.out
  refine sealOff_ok key R _ _ (sq (r + a * c)) _ (sq (4 * S + -(r + a * c))) a c S t w hF oK oR hz hc ha rfl rfl ?_ rfl ?_ (sq_ok _) (sq_ok _) (sq_ok _) (turned_ok (sq_ok _)).1
  · show _ = _; rw [hr.out, sq_add]
  · show _ = _; rw [sq_neg, sq_add]
theorem SpAt.zero_of {w : World} {b : Nat} (h0 : w.cell? ⟨b, 0, none⟩ = some (.int .i64 0)) (h1 : w.cell? ⟨b, 1, none⟩ = some (.int .i64 0)) (h2 : w.cell? ⟨b, 2, none⟩ = some (.bool false)) (f0 : w.frozen? ⟨b, 0, none⟩ = false) (f1 : w.frozen? ⟨b, 1, none⟩ = false) (f2 : w.frozen? ⟨b, 2, none⟩ = false) (hl : b < w.heap.size) : SpAt w b ⟨0, 0, false⟩ := ⟨h0, h1, h2, f0, f1, f2, hl⟩
end Go.Proofs.YtjjmelhhalomaaaGreatDoor
namespace Go.Proofs.YtjjmelhhalomaaaGreatDoor
open Go.RowKit
set_option maxRecDepth 100000
set_option linter.unusedVariables false
set_option linter.unusedSimpArgs false
theorem hav_ {P Q : Prop} (h : P) (k : P → Q) : Q := k h
end Go.Proofs.YtjjmelhhalomaaaGreatDoor
namespace Go.Proofs.YtjjmelhhalomaaaGreatDoor
open Go.RowKit
set_option maxRecDepth 100000
set_option linter.unusedVariables false
set_option linter.unusedSimpArgs false
def flatS : List Sp → List Value
  | [] => []
  | s :: l => .int .i64 s.x :: .int .i64 s.y :: .bool s.far :: flatS l
theorem flatS_at : ∀ (l : List Sp) (i : Nat) (h : i < l.length), (flatS l)[i * 3]? = some (.int .i64 l[i].x) ∧ (flatS l)[i * 3 + 1]? = some (.int .i64 l[i].y) ∧ (flatS l)[i * 3 + 2]? = some (.bool l[i].far)
  | [], i, h => absurd h (by simp)
  | s :: l, 0, _ => ⟨rfl, rfl, rfl⟩
  | s :: l, i+1, h => by
    have := flatS_at l i (by simpa using h)
    rw [Nat.succ_mul]
    exact this
theorem spots_fresh (w : World) (l : List Sp) (t : TypeId) : SpotsAt (w.alloc (.cells (flatS l).toArray t)) w.heap.size 0 l := by
  have c : ∀ k, (w.alloc (.cells (flatS l).toArray t)).cell? ⟨w.heap.size, k, none⟩ = (flatS l)[k]? := fun k => by rw [World.cell?_alloc_at _ _ _ _ (by simp)]; simp
  refine ⟨by simp, fun i h => ?_, fun i h => ?_, fun i h => ?_⟩
  · rw [Nat.zero_add, c]; exact (flatS_at l i h).1
  · rw [Nat.zero_add, c]; exact (flatS_at l i h).2.1
  · rw [Nat.zero_add, c]; exact (flatS_at l i h).2.2
theorem spots_at (w : World) (l : List Sp) (k : Nat) (cs : Array Value) (t : TypeId) (hk : k = w.heap.size) (hc : cs = (flatS l).toArray) : SpotsAt (w.alloc (.cells cs t)) k 0 l := by
  subst hk hc; exact spots_fresh w l t
theorem ok_all {l : List Sp} (h : ∀ s ∈ l, Ok s) : ∀ i (hi : i < l.length), Ok l[i] := fun i hi => h _ (List.getElem_mem hi)
/-- The challenge of five spots. -/
def ask5 (l : List Sp) : Int := hnum (lsB 5 l).data.toList
theorem ask5_bd (l : List Sp) : 0 ≤ ask5 l ∧ ask5 l < 1013 := hnum_bd _
end Go.Proofs.YtjjmelhhalomaaaGreatDoor
namespace Go.Proofs.YtjjmelhhalomaaaGreatDoor
open Go.RowKit
set_option maxRecDepth 100000
set_option linter.unusedVariables false
set_option linter.unusedSimpArgs false
theorem ins_no {x : Int} (h : ¬ (0 ≤ x ∧ x < 4051)) : inside x = false := by
  cases e : inside x
  · rfl
  · exact absurd (ins_iff.mp e) h
theorem check_v (s : Sp) (n : Int) (w : World) (hF : FarAt w) (h : Hid (sCheck s = n)) (h0 : n ≠ 0) : Calls Tryz.prog 36 #[spV s] w fun e w' => e = .returned (.iface 84 (.int .i64 n)) ∧ Below w.heap.size w w' := by
  have := check_bad s w hF (by rw [h.out]; exact h0); rw [h.out] at this; exact this
end Go.Proofs.YtjjmelhhalomaaaGreatDoor
namespace Go.Proofs.YtjjmelhhalomaaaGreatDoor
open Go.RowKit
set_option maxRecDepth 100000
set_option linter.unusedVariables false
set_option linter.unusedSimpArgs false
theorem all_v (l : List Sp) (b off cap : Nat) (w : World) (hF : FarAt w) (hl : l.length ≤ 1000000) (hs : SpotsAt w b off l) (k : Nat) (hk : k < l.length) (n : Int) (h : Hid (∀ i (h : i < l.length), i < k → Ok l[i])) (hn : Hid (sCheck l[k] = n)) (h0 : n ≠ 0) :
    Calls Tryz.prog 124 #[.slice (some ⟨b, off, none⟩) l.length cap] w fun e w' => e = .returned (.iface 84 (.int .i64 n)) ∧ Below w.heap.size w w' := by
  have := all_bad l b off cap w hF hl hs k hk h.out (by rw [hn.out]; exact h0); rw [hn.out] at this; exact this
theorem none_ok (l : List Sp) : Hid (∀ i (h : i < l.length), i < 0 → Ok l[i]) := fun i _ hi => absurd hi (Nat.not_lt_zero _)
theorem one_ok (a : Sp) (l : List Sp) (ha : Ok a) : Hid (∀ i (h : i < (a :: l).length), i < 1 → Ok (a :: l)[i]) := fun i hi hlt => by
  obtain rfl : i = 0 := by omega
  exact ha
theorem two_ok (a b : Sp) (l : List Sp) (ha : Ok a) (hb : Ok b) : Hid (∀ i (h : i < (a :: b :: l).length), i < 2 → Ok (a :: b :: l)[i]) := fun i hi hlt => by
  have : i = 0 ∨ i = 1 := by omega
  rcases this with rfl | rfl <;> assumption
set_option maxHeartbeats 1000000 in
theorem sealCheck_n4 (key R : Sp) (S : Int) (t : ByteArray) (w : World) (h : 60 < t.size) (hz : t.size ≤ 140737488351232) :
    Calls Tryz.prog 85 #[spV key, .string t, slV R S] w fun e w' => e = .returned (.iface 84 (.int .i64 4)) ∧ Below w.heap.size w w' := by
  go_enter Tryz.func85, Tryz.ntmps85
  go_wp2_with fail
  refine (text_n t _ h hz).mono ?_; rintro e w' ⟨rfl, rfl⟩
  go_wp2
  go_ret
  exact ⟨rfl, (by repeat (first | exact Below.refl _ _ | refine balloc ?_ _ | refine Below.drew ?_ | refine below_drewN ?_ _ | refine below_set ?_ (by first | omega | (dsimp only; omega)) _))⟩
set_option maxHeartbeats 1000000 in
theorem sealCheck_nk (key R : Sp) (S n : Int) (t : ByteArray) (w : World) (hF : FarAt w) (hz : t.size ≤ 60) (hn : Hid (sCheck key = n)) (h0 : n ≠ 0) :
    Calls Tryz.prog 85 #[spV key, .string t, slV R S] w fun e w' => e = .returned (.iface 84 (.int .i64 n)) ∧ Below w.heap.size w w' := by
  go_enter Tryz.func85, Tryz.ntmps85
  go_wp2_with fail
  refine (text_y t _ hz).mono ?_; rintro e w' ⟨rfl, rfl⟩
  go_wp2_with fail
  refine (all_v [key, R] _ 0 2 _ (hF.below (by repeat (first | exact Below.refl _ _ | refine balloc ?_ _ | refine Below.drew ?_ | refine below_drewN ?_ _ | refine below_set ?_ (by first | omega | (dsimp only; omega)) _))) (by simp) (spots_two key R _ _ (by simp) (by go_simp) (by go_simp) (by go_simp) (by go_simp) (by go_simp) (by go_simp)) 0 (by simp) n (none_ok _) hn h0).mono ?_; rintro e w1 ⟨rfl, hb⟩
  obtain ⟨hc1, hf1⟩ := bcell hb
  have z1 := hb.size
  try simp only [World.size_alloc, World.size_setCell, World.size_drew] at z1
  have s1_0 : w.heap.size < w1.heap.size := by omega
  have s1_1 : w.heap.size + 1 < w1.heap.size := by omega
  have s1_2 : w.heap.size + 1 + 1 < w1.heap.size := by omega
  have hB1 : Below w.heap.size w w1 := below_seq (by repeat (first | exact Below.refl _ _ | refine balloc ?_ _ | refine Below.drew ?_ | refine below_drewN ?_ _ | refine below_set ?_ (by first | omega | (dsimp only; omega)) _)) hb
  clear hb
  go_wp2
  go_ret
  exact ⟨rfl, (by repeat (first | exact hB1 | exact Below.refl _ _ | refine balloc ?_ _ | refine Below.drew ?_ | refine below_drewN ?_ _ | refine below_set ?_ (by first | omega | (dsimp only; omega)) _))⟩
set_option maxHeartbeats 1000000 in
theorem sealCheck_nr (key R : Sp) (S n : Int) (t : ByteArray) (w : World) (hF : FarAt w) (hz : t.size ≤ 60) (ok : Ok key) (hn : Hid (sCheck R = n)) (h0 : n ≠ 0) :
    Calls Tryz.prog 85 #[spV key, .string t, slV R S] w fun e w' => e = .returned (.iface 84 (.int .i64 n)) ∧ Below w.heap.size w w' := by
  go_enter Tryz.func85, Tryz.ntmps85
  go_wp2_with fail
  refine (text_y t _ hz).mono ?_; rintro e w' ⟨rfl, rfl⟩
  go_wp2_with fail
  refine (all_v [key, R] _ 0 2 _ (hF.below (by repeat (first | exact Below.refl _ _ | refine balloc ?_ _ | refine Below.drew ?_ | refine below_drewN ?_ _ | refine below_set ?_ (by first | omega | (dsimp only; omega)) _))) (by simp) (spots_two key R _ _ (by simp) (by go_simp) (by go_simp) (by go_simp) (by go_simp) (by go_simp) (by go_simp)) 1 (by simp) n (one_ok _ _ ok) hn h0).mono ?_; rintro e w1 ⟨rfl, hb⟩
  obtain ⟨hc1, hf1⟩ := bcell hb
  have z1 := hb.size
  try simp only [World.size_alloc, World.size_setCell, World.size_drew] at z1
  have s1_0 : w.heap.size < w1.heap.size := by omega
  have s1_1 : w.heap.size + 1 < w1.heap.size := by omega
  have s1_2 : w.heap.size + 1 + 1 < w1.heap.size := by omega
  have hB1 : Below w.heap.size w w1 := below_seq (by repeat (first | exact Below.refl _ _ | refine balloc ?_ _ | refine Below.drew ?_ | refine below_drewN ?_ _ | refine below_set ?_ (by first | omega | (dsimp only; omega)) _)) hb
  clear hb
  go_wp2
  go_ret
  exact ⟨rfl, (by repeat (first | exact hB1 | exact Below.refl _ _ | refine balloc ?_ _ | refine Below.drew ?_ | refine below_drewN ?_ _ | refine below_set ?_ (by first | omega | (dsimp only; omega)) _))⟩
set_option maxHeartbeats 1000000 in
theorem sealCheck_ns (key R : Sp) (S : Int) (t : ByteArray) (w : World) (hF : FarAt w) (hk : Ok key) (hR : Ok R) (hz : t.size ≤ 60) (h : ¬ (0 ≤ S ∧ S < 1013)) :
    Calls Tryz.prog 85 #[spV key, .string t, slV R S] w fun e w' => e = .returned (.iface 84 (.int .i64 1)) ∧ Below w.heap.size w w' := by
  go_enter Tryz.func85, Tryz.ntmps85
  go_wp2_with fail
  refine (text_y t _ hz).mono ?_; rintro e w' ⟨rfl, rfl⟩
  go_wp2_with fail
  refine (all_ok [key, R] _ 0 2 _ (hF.below (by repeat (first | exact Below.refl _ _ | refine balloc ?_ _ | refine Below.drew ?_ | refine below_drewN ?_ _ | refine below_set ?_ (by first | omega | (dsimp only; omega)) _))) (by simp) (spots_two key R _ _ (by simp) (by go_simp) (by go_simp) (by go_simp) (by go_simp) (by go_simp) (by go_simp)) (ok_two hk hR)).mono ?_; rintro e w1 ⟨rfl, hb⟩
  obtain ⟨hc1, hf1⟩ := bcell hb
  have z1 := hb.size
  try simp only [World.size_alloc, World.size_setCell, World.size_drew] at z1
  have s1_0 : w.heap.size < w1.heap.size := by omega
  have s1_1 : w.heap.size + 1 < w1.heap.size := by omega
  have s1_2 : w.heap.size + 1 + 1 < w1.heap.size := by omega
  have hB1 : Below w.heap.size w w1 := below_seq (by repeat (first | exact Below.refl _ _ | refine balloc ?_ _ | refine Below.drew ?_ | refine below_drewN ?_ _ | refine below_set ?_ (by first | omega | (dsimp only; omega)) _)) hb
  clear hb
  go_wp2_with fail
  refine (rest_n S _ h).mono ?_; rintro e w' ⟨rfl, rfl⟩
  go_wp2
  go_ret
  exact ⟨rfl, (by repeat (first | exact hB1 | exact Below.refl _ _ | refine balloc ?_ _ | refine Below.drew ?_ | refine below_drewN ?_ _ | refine below_set ?_ (by first | omega | (dsimp only; omega)) _))⟩
/-- The fault of what is to be verified. -/
def sealF (key R : Sp) (S : Int) (z : Nat) : Int := if 60 < z then 4 else if sCheck key ≠ 0 then sCheck key else if sCheck R ≠ 0 then sCheck R else if 0 ≤ S ∧ S < 1013 then 0 else 1
theorem sealF_zero {key R : Sp} {S : Int} {z : Nat} (h : sealF key R S z = 0) : z ≤ 60 ∧ Ok key ∧ Ok R ∧ 0 ≤ S ∧ S < 1013 := by
  unfold sealF at h
  split at h
  · exact absurd h (by decide)
  · split at h
    · contradiction
    · split at h
      · contradiction
      · split at h
        · rename_i h1 h2 h3 h4
          exact ⟨by omega, (ok_iff _).mp (by simpa using h2), (ok_iff _).mp (by simpa using h3), h4.1, h4.2⟩
        · exact absurd h (by decide)
/-- Whatever is wrong with it. -/
theorem sealCheck_t (key R : Sp) (S n : Int) (t : ByteArray) (w : World) (hF : FarAt w) (hz : t.size ≤ 140737488351232) (hn : Hid (sealF key R S t.size = n)) (h0 : n ≠ 0) :
    Calls Tryz.prog 85 #[spV key, .string t, slV R S] w fun e w' => e = .returned (.iface 84 (.int .i64 n)) ∧ Below w.heap.size w w' := by
  have hn := hn.out
  unfold sealF at hn
  split at hn
  · subst hn; exact sealCheck_n4 key R S t w (by assumption) hz
  · split at hn
    · exact sealCheck_nk key R S n t w hF (by omega) hn h0
    · have ok : Ok key := (ok_iff _).mp (by rename_i h; simpa using h)
      split at hn
      · exact sealCheck_nr key R S n t w hF (by omega) ok hn h0
      · have oR : Ok R := (ok_iff _).mp (by rename_i h; simpa using h)
        split at hn
        · exact absurd hn.symm h0
        · subst hn; exact sealCheck_ns key R S t w hF ok oR (by omega) (by assumption)
set_option maxHeartbeats 1000000 in
theorem sealVerify_t (key R : Sp) (S n : Int) (t : ByteArray) (w : World) (hF : FarAt w) (hz : t.size ≤ 140737488351232) (hn : Hid (sealF key R S t.size = n)) (h0 : n ≠ 0) :
    Calls Tryz.prog 41 #[spV key, .string t, slV R S] w fun e w' => e = .returned (.tuple #[.bool false, .iface 84 (.int .i64 n)]) ∧ Below w.heap.size w w' := by
  go_enter Tryz.func41, Tryz.ntmps41
  go_wp2_with fail
  refine (sealCheck_t key R S n t _ (hF.below (by repeat (first | exact Below.refl _ _ | refine balloc ?_ _ | refine Below.drew ?_ | refine below_drewN ?_ _ | refine below_set ?_ (by first | omega | (dsimp only; omega)) _))) hz hn h0).mono ?_; rintro e w1 ⟨rfl, hb⟩
  obtain ⟨hc1, hf1⟩ := bcell hb
  have z1 := hb.size
  try simp only [World.size_alloc, World.size_setCell, World.size_drew] at z1
  have s1_0 : w.heap.size < w1.heap.size := by omega
  have s1_1 : w.heap.size + 1 < w1.heap.size := by omega
  have hB1 : Below w.heap.size w w1 := below_seq (by repeat (first | exact Below.refl _ _ | refine balloc ?_ _ | refine Below.drew ?_ | refine below_drewN ?_ _ | refine below_set ?_ (by first | omega | (dsimp only; omega)) _)) hb
  clear hb
  go_wp2
  go_ret2
  exact ⟨rfl, (by repeat (first | exact hB1 | exact Below.refl _ _ | refine balloc ?_ _ | refine Below.drew ?_ | refine below_drewN ?_ _ | refine below_set ?_ (by first | omega | (dsimp only; omega)) _))⟩
end Go.Proofs.YtjjmelhhalomaaaGreatDoor
namespace Go.Proofs.YtjjmelhhalomaaaGreatDoor
open Go.RowKit
set_option maxRecDepth 100000
set_option linter.unusedVariables false
set_option linter.unusedSimpArgs false
theorem list_v (l : List Sp) (b off cap : Nat) (w : World) (hF : FarAt w) (hl : l.length ≤ 12) (hs : SpotsAt w b off l) (k : Nat) (hk : k < l.length) (n : Int) (h : Hid (∀ i (h : i < l.length), i < k → Ok l[i])) (hn : Hid (sCheck l[k] = n)) (h0 : n ≠ 0) :
    Calls Tryz.prog 93 #[.slice (some ⟨b, off, none⟩) l.length cap] w fun e w' => e = .returned (.tuple #[.string ⟨#[]⟩, .iface 84 (.int .i64 n)]) ∧ Below w.heap.size w w' := by
  have := list_bad l b off cap w hF hl hs k hk h.out (by rw [hn.out]; exact h0); rw [hn.out] at this; exact this
end Go.Proofs.YtjjmelhhalomaaaGreatDoor
namespace Go.Proofs.YtjjmelhhalomaaaGreatDoor
open Go.RowKit
set_option maxRecDepth 100000
set_option linter.unusedVariables false
set_option linter.unusedSimpArgs false
/-- The challenge's number. -/
noncomputable def bAsk (a b : Sp) : Int := hnum (lsB 2 [a, b]).data.toList
theorem bAsk_bd (a b : Sp) : 0 ≤ bAsk a b ∧ bAsk a b < 1013 := hnum_bd _
set_option maxHeartbeats 4000000 in
theorem bask_core (a b : Sp) (S : ByteArray) (R : Value) (w : World) (hz : S.size ≤ 100) (V : Value)
    (kL : Hid (∀ w1 v, Below w.heap.size w w1 → SpSl w1 v [a, b] → Calls Tryz.prog 93 #[v] w1 fun e w' => e = .returned (.tuple #[.string S, V]) ∧ Below w1.heap.size w1 w'))
    (hR : (∃ k, V = .iface 84 (.int .i64 k) ∧ R = .tuple #[.int .i64 0, V]) ∨ (V = .nilIface ∧ R = .tuple #[.int .i64 (hnum S.data.toList), .nilIface])) :
    Calls Tryz.prog 51 #[spV a, spV b] w fun e w' => e = .returned R ∧ Below w.heap.size w w' := by
  go_enter Tryz.func51, Tryz.ntmps51
  go_wp2_with fail
  have hm := SpSl.made ((w.alloc (.cells #[.int .i64 a.x, .int .i64 a.y, .bool a.far] 28)).alloc (.cells #[.int .i64 b.x, .int .i64 b.y, .bool b.far] 28)) [a, b] (w.heap.size + 1 + 1) 2 2 #[.int .i64 a.x, .int .i64 a.y, .bool a.far, .int .i64 b.x, .int .i64 b.y, .bool b.far] 28 (by simp) rfl rfl
  have hb := balloc (balloc (below_alloc w (.cells #[.int .i64 a.x, .int .i64 a.y, .bool a.far] 28)) (.cells #[.int .i64 b.x, .int .i64 b.y, .bool b.far] 28)) (.cells #[.int .i64 a.x, .int .i64 a.y, .bool a.far, .int .i64 b.x, .int .i64 b.y, .bool b.far] 28)
  refine (kL.out _ _ hb hm).mono ?_; rintro e w1 ⟨rfl, hb1⟩
  have hB1 := below_seq hb hb1
  clear hb hm hb1 kL
  rcases hR with ⟨k, rfl, rfl⟩ | ⟨rfl, rfl⟩
  · go_wp2
    go_ret2
    exact ⟨rfl, hB1⟩
  · go_wp2_with fail
    refine (hashNumber_c S _ (by omega)).mono ?_; rintro e w2 ⟨rfl, hb2⟩
    go_wp2
    go_ret2
    exact ⟨rfl, below_seq hB1 hb2⟩
theorem two_oks {a b : Sp} (oa : Ok a) (ob : Ok b) : ∀ z ∈ [a, b], Ok z := fun z h => by
  simp only [List.mem_cons, List.not_mem_nil, or_false] at h
  rcases h with rfl | rfl
  · exact oa
  · exact ob
theorem bask_y (a b : Sp) (c : Int) (w : World) (hF : FarAt w) (oa : Ok a) (ob : Ok b) (hc : Hid (bAsk a b = c)) : Calls Tryz.prog 51 #[spV a, spV b] w fun e w' => e = .returned (.tuple #[.int .i64 c, .nilIface]) ∧ Below w.heap.size w w' := by
  rw [← hc.out]
  exact bask_core a b (lsB 2 [a, b]) _ w (Nat.le_trans (lsB_size 2 [a, b]) (by simp)) .nilIface (Lib.hid fun w1 v hb hv => list_sl [a, b] v w1 (hF.below hb) (by simp) hv (two_oks oa ob)) (.inr ⟨rfl, rfl⟩)
theorem bask_n1 (a b : Sp) (E : Int) (w : World) (hF : FarAt w) (ha : Hid (sCheck a = E)) (h0 : E ≠ 0) : Calls Tryz.prog 51 #[spV a, spV b] w fun e w' => e = .returned (.tuple #[.int .i64 0, .iface 84 (.int .i64 E)]) ∧ Below w.heap.size w w' := by
  refine bask_core a b ⟨#[]⟩ _ w (by decide) (.iface 84 (.int .i64 E)) (Lib.hid fun w1 v hb hv => ?_) (.inl ⟨E, rfl, rfl⟩)
  obtain ⟨av, cv, rfl, h⟩ := hv
  obtain ⟨bb, o, rfl, hs⟩ := h (by simp)
  exact list_v [a, b] bb o cv w1 (hF.below hb) (by simp) hs 0 (by simp) E (Lib.hid fun i _ h => absurd h (Nat.not_lt_zero _)) ha h0
theorem bask_n2 (a b : Sp) (E : Int) (w : World) (hF : FarAt w) (oa : Ok a) (ha : Hid (sCheck b = E)) (h0 : E ≠ 0) : Calls Tryz.prog 51 #[spV a, spV b] w fun e w' => e = .returned (.tuple #[.int .i64 0, .iface 84 (.int .i64 E)]) ∧ Below w.heap.size w w' := by
  refine bask_core a b ⟨#[]⟩ _ w (by decide) (.iface 84 (.int .i64 E)) (Lib.hid fun w1 v hb hv => ?_) (.inl ⟨E, rfl, rfl⟩)
  obtain ⟨av, cv, rfl, h⟩ := hv
  obtain ⟨bb, o, rfl, hs⟩ := h (by simp)
  exact list_v [a, b] bb o cv w1 (hF.below hb) (by simp) hs 1 (by simp) E (Lib.hid fun i _ h => (by obtain rfl : i = 0 := (by omega); exact oa)) ha h0
set_option maxHeartbeats 4000000 in
theorem bclose_y (r k : Int) (e P : Sp) (c S : Int) (w : World) (hF : FarAt w) (r0 : 0 ≤ r) (r1 : r < 1013) (k0 : 1 ≤ k) (k1 : k < 1013) (oe : Ok e) (hP : Hid (sq (4 * hJ * k) = P)) (hc : Hid (bAsk P e = c)) (hS : (k + c * r) % 1013 = S) :
    Calls Tryz.prog 18 #[.int .i64 r, .int .i64 k, spV e] w fun e w' => e = .returned (.tuple #[slV P S, .nilIface]) ∧ Below w.heap.size w w' := by
  have oP : Ok P := by rw [← hP.out]; exact sq_ok _
  have hcb := bAsk_bd P e
  rw [hc.out] at hcb
  have hm0 : 0 ≤ c * r := Int.mul_nonneg hcb.1 r0
  have hm1 : c * r ≤ 1012 * 1012 := Int.mul_le_mul (by omega) (by omega) r0 (by omega)
  have e1 : IntKind.i64.wrap (c * r) = c * r := by rw [IntKind.wrap_i64]; omega
  have e2 : IntKind.i64.wrap (k + c * r) = k + c * r := by rw [IntKind.wrap_i64]; omega
  have e3 : (k + c * r).tmod 1013 = S := by rw [Int.tmod_eq_emod_of_nonneg (by omega)]; exact hS
  clear hm0 hm1 hS
  go_enter Tryz.func18, Tryz.ntmps18
  go_wp2_with fail
  refine (rest_y r _ r0 r1).mono ?_; rintro e' w' ⟨rfl, rfl⟩
  go_wp2_with fail
  refine (secret_y k _ k0 k1).mono ?_; rintro e' w' ⟨rfl, rfl⟩
  go_wp2_with fail
  refine (second_c _ (hF.below (by repeat (first | exact Below.refl _ _ | refine balloc ?_ _ | refine Below.drew ?_ | refine below_drewN ?_ _ | refine below_set ?_ (by first | omega | (dsimp only; omega)) _)))).mono ?_; rintro e w1 ⟨rfl, hb⟩
  obtain ⟨hc1, hf1⟩ := bcell hb
  have z1 := hb.size
  try simp only [World.size_alloc, World.size_setCell, World.size_drew] at z1
  have s1_0 : w.heap.size < w1.heap.size := by omega
  have s1_1 : w.heap.size + 1 < w1.heap.size := by omega
  have hB1 : Below w.heap.size w w1 := below_seq (by repeat (first | exact Below.refl _ _ | refine balloc ?_ _ | refine Below.drew ?_ | refine below_drewN ?_ _ | refine below_set ?_ (by first | omega | (dsimp only; omega)) _)) hb
  clear hb
  have m1_0_0 : w1.cell? ⟨w.heap.size, 0, none⟩ = some (.int .i64 e.x) := by go_simp
  have m1_0_1 : w1.cell? ⟨w.heap.size, 1, none⟩ = some (.int .i64 e.y) := by go_simp
  have m1_0_2 : w1.cell? ⟨w.heap.size, 2, none⟩ = some (.bool e.far) := by go_simp
  go_wp2_with fail
  refine (of_e (sq (4 * hJ)) P (4 * hJ) k _ (hF.below (by repeat (first | exact hB1 | exact Below.refl _ _ | refine balloc ?_ _ | refine Below.drew ?_ | refine below_drewN ?_ _ | refine below_set ?_ (by first | omega | (dsimp only; omega)) _))) (Lib.hid rfl) hP).mono ?_; rintro e w2 ⟨rfl, hb⟩
  obtain ⟨hc2, hf2⟩ := bcell hb
  have z2 := hb.size
  try simp only [World.size_alloc, World.size_setCell, World.size_drew] at z2
  have s2_0 : w.heap.size < w2.heap.size := by omega
  have s2_1 : w.heap.size + 1 < w2.heap.size := by omega
  have hB2 : Below w.heap.size w w2 := below_seq (by repeat (first | exact hB1 | exact Below.refl _ _ | refine balloc ?_ _ | refine Below.drew ?_ | refine below_drewN ?_ _ | refine below_set ?_ (by first | omega | (dsimp only; omega)) _)) hb
  clear hb
  have m2_0_0 : w2.cell? ⟨w.heap.size, 0, none⟩ = some (.int .i64 e.x) := by go_simp
  have m2_0_1 : w2.cell? ⟨w.heap.size, 1, none⟩ = some (.int .i64 e.y) := by go_simp
  have m2_0_2 : w2.cell? ⟨w.heap.size, 2, none⟩ = some (.bool e.far) := by go_simp
  clear m1_0_0 m1_0_1 m1_0_2
  go_wp2_with fail
  refine (bask_y P e c _ (hF.below (by repeat (first | exact hB2 | exact Below.refl _ _ | refine balloc ?_ _ | refine Below.drew ?_ | refine below_drewN ?_ _ | refine below_set ?_ (by first | omega | (dsimp only; omega)) _))) oP oe hc).mono ?_; rintro e w3 ⟨rfl, hb⟩
  obtain ⟨hc3, hf3⟩ := bcell hb
  have z3 := hb.size
  try simp only [World.size_alloc, World.size_setCell, World.size_drew] at z3
  have s3_0 : w.heap.size < w3.heap.size := by omega
  have s3_1 : w.heap.size + 1 < w3.heap.size := by omega
  have s3_2 : w2.heap.size < w3.heap.size := by omega
  have hB3 : Below w.heap.size w w3 := below_seq (by repeat (first | exact hB2 | exact Below.refl _ _ | refine balloc ?_ _ | refine Below.drew ?_ | refine below_drewN ?_ _ | refine below_set ?_ (by first | omega | (dsimp only; omega)) _)) hb
  clear hb
  have m3_0_0 : w3.cell? ⟨w.heap.size, 0, none⟩ = some (.int .i64 e.x) := by go_simp
  have m3_0_1 : w3.cell? ⟨w.heap.size, 1, none⟩ = some (.int .i64 e.y) := by go_simp
  have m3_0_2 : w3.cell? ⟨w.heap.size, 2, none⟩ = some (.bool e.far) := by go_simp
  clear m2_0_0 m2_0_1 m2_0_2
  have r0 : w3.cell? ⟨w.heap.size + 1, 0, none⟩ = some (.int .i64 0) := by go_simp
  have r1 : w3.cell? ⟨w.heap.size + 1, 1, none⟩ = some (.int .i64 0) := by go_simp
  have r2 : w3.cell? ⟨w.heap.size + 1, 2, none⟩ = some (.bool false) := by go_simp
  have r3 : w3.cell? ⟨w.heap.size + 1, 3, none⟩ = some (.int .i64 0) := by go_simp
  go_wp2
  have k := set4_cell (w := w3) (x := .int .i64 P.x) (y := .int .i64 P.y) (z := .bool P.far) (p := .int .i64 S) r0 r1 r2 r3
  refine bodyPost_ret (v := .tuple #[slV P S, .nilIface]) (by simp [results, Tryz.results18, go_sem, k.1, k.2.1, k.2.2.1, k.2.2.2]) rfl ⟨rfl, set4_below (by repeat (first | exact hB3 | exact Below.refl _ _ | refine balloc ?_ _ | refine Below.drew ?_ | refine below_drewN ?_ _ | refine below_set ?_ (by first | omega | (dsimp only; omega)) _)) (by omega)⟩
set_option maxHeartbeats 1000000 in
theorem bclose_n1 (r k : Int) (e : Sp) (w : World) (h : ¬ (0 ≤ r ∧ r < 1013)) :
    Calls Tryz.prog 18 #[.int .i64 r, .int .i64 k, spV e] w fun e w' => e = .returned (.tuple #[slV ⟨0, 0, false⟩ 0, .iface 84 (.int .i64 1)]) ∧ Below w.heap.size w w' := by
  go_enter Tryz.func18, Tryz.ntmps18
  go_wp2_with fail
  refine (rest_n r _ h).mono ?_; rintro e' w' ⟨rfl, rfl⟩
  go_wp2
  refine bodyPost_ret (v := .tuple #[slV ⟨0, 0, false⟩ 0, .iface 84 (.int .i64 1)]) (by simp [results, Tryz.results18, go_sem]) rfl ⟨rfl, (by repeat (first | exact Below.refl _ _ | refine balloc ?_ _ | refine Below.drew ?_ | refine below_drewN ?_ _ | refine below_set ?_ (by first | omega | (dsimp only; omega)) _))⟩
set_option maxHeartbeats 1000000 in
theorem bclose_n2 (r k : Int) (e : Sp) (w : World) (r0 : 0 ≤ r) (r1 : r < 1013) (h : ¬ (1 ≤ k ∧ k < 1013)) :
    Calls Tryz.prog 18 #[.int .i64 r, .int .i64 k, spV e] w fun e w' => e = .returned (.tuple #[slV ⟨0, 0, false⟩ 0, .iface 84 (.int .i64 1)]) ∧ Below w.heap.size w w' := by
  go_enter Tryz.func18, Tryz.ntmps18
  go_wp2_with fail
  refine (rest_y r _ r0 r1).mono ?_; rintro e' w' ⟨rfl, rfl⟩
  go_wp2_with fail
  refine (secret_n k _ h).mono ?_; rintro e' w' ⟨rfl, rfl⟩
  go_wp2
  refine bodyPost_ret (v := .tuple #[slV ⟨0, 0, false⟩ 0, .iface 84 (.int .i64 1)]) (by simp [results, Tryz.results18, go_sem]) rfl ⟨rfl, (by repeat (first | exact Below.refl _ _ | refine balloc ?_ _ | refine Below.drew ?_ | refine below_drewN ?_ _ | refine below_set ?_ (by first | omega | (dsimp only; omega)) _))⟩
theorem bclose_n (r k : Int) (e : Sp) (w : World) (h : ¬ (0 ≤ r ∧ r < 1013 ∧ 1 ≤ k ∧ k < 1013)) :
    Calls Tryz.prog 18 #[.int .i64 r, .int .i64 k, spV e] w fun e w' => e = .returned (.tuple #[slV ⟨0, 0, false⟩ 0, .iface 84 (.int .i64 1)]) ∧ Below w.heap.size w w' := by
  by_cases hr : 0 ≤ r ∧ r < 1013
  · exact bclose_n2 r k e w hr.1 hr.2 (fun hk => h ⟨hr.1, hr.2, hk.1, hk.2⟩)
  · exact bclose_n1 r k e w hr
set_option maxHeartbeats 4000000 in
theorem bclose_v (r k : Int) (e P : Sp) (E : Int) (w : World) (hF : FarAt w) (r0 : 0 ≤ r) (r1 : r < 1013) (k0 : 1 ≤ k) (k1 : k < 1013) (he : Hid (sCheck e = E)) (hE : E ≠ 0) (hP : Hid (sq (4 * hJ * k) = P)) :
    Calls Tryz.prog 18 #[.int .i64 r, .int .i64 k, spV e] w fun e w' => e = .returned (.tuple #[slV ⟨0, 0, false⟩ 0, .iface 84 (.int .i64 E)]) ∧ Below w.heap.size w w' := by
  have oP : Ok P := by rw [← hP.out]; exact sq_ok _
  go_enter Tryz.func18, Tryz.ntmps18
  go_wp2_with fail
  refine (rest_y r _ r0 r1).mono ?_; rintro e' w' ⟨rfl, rfl⟩
  go_wp2_with fail
  refine (secret_y k _ k0 k1).mono ?_; rintro e' w' ⟨rfl, rfl⟩
  go_wp2_with fail
  refine (second_c _ (hF.below (by repeat (first | exact Below.refl _ _ | refine balloc ?_ _ | refine Below.drew ?_ | refine below_drewN ?_ _ | refine below_set ?_ (by first | omega | (dsimp only; omega)) _)))).mono ?_; rintro e w1 ⟨rfl, hb⟩
  obtain ⟨hc1, hf1⟩ := bcell hb
  have z1 := hb.size
  try simp only [World.size_alloc, World.size_setCell, World.size_drew] at z1
  have s1_0 : w.heap.size < w1.heap.size := by omega
  have s1_1 : w.heap.size + 1 < w1.heap.size := by omega
  have hB1 : Below w.heap.size w w1 := below_seq (by repeat (first | exact Below.refl _ _ | refine balloc ?_ _ | refine Below.drew ?_ | refine below_drewN ?_ _ | refine below_set ?_ (by first | omega | (dsimp only; omega)) _)) hb
  clear hb
  have m1_0_0 : w1.cell? ⟨w.heap.size, 0, none⟩ = some (.int .i64 e.x) := by go_simp
  have m1_0_1 : w1.cell? ⟨w.heap.size, 1, none⟩ = some (.int .i64 e.y) := by go_simp
  have m1_0_2 : w1.cell? ⟨w.heap.size, 2, none⟩ = some (.bool e.far) := by go_simp
  go_wp2_with fail
  refine (of_e (sq (4 * hJ)) P (4 * hJ) k _ (hF.below (by repeat (first | exact hB1 | exact Below.refl _ _ | refine balloc ?_ _ | refine Below.drew ?_ | refine below_drewN ?_ _ | refine below_set ?_ (by first | omega | (dsimp only; omega)) _))) (Lib.hid rfl) hP).mono ?_; rintro e w2 ⟨rfl, hb⟩
  obtain ⟨hc2, hf2⟩ := bcell hb
  have z2 := hb.size
  try simp only [World.size_alloc, World.size_setCell, World.size_drew] at z2
  have s2_0 : w.heap.size < w2.heap.size := by omega
  have s2_1 : w.heap.size + 1 < w2.heap.size := by omega
  have hB2 : Below w.heap.size w w2 := below_seq (by repeat (first | exact hB1 | exact Below.refl _ _ | refine balloc ?_ _ | refine Below.drew ?_ | refine below_drewN ?_ _ | refine below_set ?_ (by first | omega | (dsimp only; omega)) _)) hb
  clear hb
  have m2_0_0 : w2.cell? ⟨w.heap.size, 0, none⟩ = some (.int .i64 e.x) := by go_simp
  have m2_0_1 : w2.cell? ⟨w.heap.size, 1, none⟩ = some (.int .i64 e.y) := by go_simp
  have m2_0_2 : w2.cell? ⟨w.heap.size, 2, none⟩ = some (.bool e.far) := by go_simp
  clear m1_0_0 m1_0_1 m1_0_2
  go_wp2_with fail
  refine (bask_n2 P e E _ (hF.below (by repeat (first | exact hB2 | exact Below.refl _ _ | refine balloc ?_ _ | refine Below.drew ?_ | refine below_drewN ?_ _ | refine below_set ?_ (by first | omega | (dsimp only; omega)) _))) oP he hE).mono ?_; rintro e w3 ⟨rfl, hb⟩
  obtain ⟨hc3, hf3⟩ := bcell hb
  have z3 := hb.size
  try simp only [World.size_alloc, World.size_setCell, World.size_drew] at z3
  have s3_0 : w.heap.size < w3.heap.size := by omega
  have s3_1 : w.heap.size + 1 < w3.heap.size := by omega
  have s3_2 : w2.heap.size < w3.heap.size := by omega
  have hB3 : Below w.heap.size w w3 := below_seq (by repeat (first | exact hB2 | exact Below.refl _ _ | refine balloc ?_ _ | refine Below.drew ?_ | refine below_drewN ?_ _ | refine below_set ?_ (by first | omega | (dsimp only; omega)) _)) hb
  clear hb
  have m3_0_0 : w3.cell? ⟨w.heap.size, 0, none⟩ = some (.int .i64 e.x) := by go_simp
  have m3_0_1 : w3.cell? ⟨w.heap.size, 1, none⟩ = some (.int .i64 e.y) := by go_simp
  have m3_0_2 : w3.cell? ⟨w.heap.size, 2, none⟩ = some (.bool e.far) := by go_simp
  clear m2_0_0 m2_0_1 m2_0_2
  have r0 : w3.cell? ⟨w.heap.size + 1, 0, none⟩ = some (.int .i64 0) := by go_simp
  have r1 : w3.cell? ⟨w.heap.size + 1, 1, none⟩ = some (.int .i64 0) := by go_simp
  have r2 : w3.cell? ⟨w.heap.size + 1, 2, none⟩ = some (.bool false) := by go_simp
  have r3 : w3.cell? ⟨w.heap.size + 1, 3, none⟩ = some (.int .i64 0) := by go_simp
  go_wp2
  have k := set4_cell (w := w3) (x := .int .i64 0) (y := .int .i64 0) (z := .bool false) (p := .int .i64 0) r0 r1 r2 r3
  refine bodyPost_ret (v := .tuple #[slV ⟨0, 0, false⟩ 0, .iface 84 (.int .i64 E)]) (by simp [results, Tryz.results18, go_sem, k.1, k.2.1, k.2.2.1, k.2.2.2]) rfl ⟨rfl, set4_below (by repeat (first | exact hB3 | exact Below.refl _ _ | refine balloc ?_ _ | refine Below.drew ?_ | refine below_drewN ?_ _ | refine below_set ?_ (by first | omega | (dsimp only; omega)) _)) (by omega)⟩
end Go.Proofs.YtjjmelhhalomaaaGreatDoor
namespace Go.Proofs.YtjjmelhhalomaaaGreatDoor
open Go.RowKit
set_option maxRecDepth 100000
set_option linter.unusedVariables false
set_option linter.unusedSimpArgs false
/-- A deal. -/
abbrev dlV (g n : Value) (r : Sp) (s : Int) : Value := .agg #[g, n, .int .i64 r.x, .int .i64 r.y, .bool r.far, .int .i64 s]
set_option maxHeartbeats 16000000 in
/-- Why a deal is refused. -/
theorem bdo_n (N : List Int) (G : List Bool) (B p : Nat) (a0 a1 : Option Addr) (n m c0 c1 : Nat) (RS : Sp) (s : Int) (X : Sp) (x E : Int) (RX : Value) (w : World) (hF : FarAt w) (hBk : BkAt w B p N G) (hNl : N.length ≤ 1000000) (hm : m ≤ 1000000) (hX : Hid (X = sq (4 * x)))
    (hEx : Hid (∀ w1 : World, Below w.heap.size w w1 → Calls Tryz.prog 17 #[.pointer (some ⟨p, 0, none⟩), .slice a0 n c0, .slice a1 m c1] w1 fun e w' => e = .returned RX ∧ Below w1.heap.size w1 w'))
    (hR : Hid (RX = .tuple #[spV ⟨0, 0, false⟩, .iface 84 (.int .i64 E)] ∨ (RX = .tuple #[spV X, .nilIface] ∧ ((1000 < N.length + m ∧ E = 4) ∨ (N.length + m ≤ 1000 ∧ ((¬ (0 ≤ s ∧ s < 1013) ∧ E = 1) ∨ ((0 ≤ s ∧ s < 1013) ∧ ((sCheck RS = E ∧ E ≠ 0) ∨ (Ok RS ∧ E = 8 ∧ Sp.beq (sq (4 * hJ * s)) (sSum RS (sq (4 * x * bAsk RS X))) = false))))))))) :
    Calls Tryz.prog 20 #[.pointer (some ⟨p, 0, none⟩), dlV (.slice a0 n c0) (.slice a1 m c1) RS s] w fun e w' => e = .returned (.iface 84 (.int .i64 E)) ∧ Below w.heap.size w w' := by
  obtain ⟨vc, vg, hBk⟩ := hBk
  obtain ⟨ac, cc, rfl⟩ := own_slB hBk.rc
  have p0 := hBk.c0
  have hp := hBk.lt
  have hcp := Lib.hid (fun (w' : World) (hb : Below w.heap.size w w') => (⟨((bcell hb).1 _ 0 hp).trans p0, Nat.lt_of_lt_of_le hp hb.size⟩ : w'.cell? ⟨p, 0, none⟩ = some (.slice ac N.length cc) ∧ p < w'.heap.size))
  have hF' := Lib.hid hF
  clear hBk p0 hF
  go_enter Tryz.func20, Tryz.ntmps20
  go_wp2_with fail
  have hb0 := Lib.hid (below_alloc w (.cells #[.slice a0 n c0, .slice a1 m c1, .int .i64 RS.x, .int .i64 RS.y, .bool RS.far, .int .i64 s] 53))
  refine (hEx.out _ hb0.out).mono ?_; rintro e w1 ⟨rfl, hb1⟩
  have hB1 := Lib.hid (below_seq hb0.out hb1)
  obtain ⟨hcc, -⟩ := bcell hb1
  have e0 : w1.cell? ⟨w.heap.size, 0, none⟩ = some (.slice a0 n c0) := by rw [hcc _ _ (by simp)]; go_simp
  have e1 : w1.cell? ⟨w.heap.size, 1, none⟩ = some (.slice a1 m c1) := by rw [hcc _ _ (by simp)]; go_simp
  have e2 : w1.cell? ⟨w.heap.size, 2, none⟩ = some (.int .i64 RS.x) := by rw [hcc _ _ (by simp)]; go_simp
  have e3 : w1.cell? ⟨w.heap.size, 3, none⟩ = some (.int .i64 RS.y) := by rw [hcc _ _ (by simp)]; go_simp
  have e4 : w1.cell? ⟨w.heap.size, 4, none⟩ = some (.bool RS.far) := by rw [hcc _ _ (by simp)]; go_simp
  have e5 : w1.cell? ⟨w.heap.size, 5, none⟩ = some (.int .i64 s) := by rw [hcc _ _ (by simp)]; go_simp
  have el : w.heap.size < w1.heap.size := by have := hb1.size; simp at this; omega
  have hd := Lib.hid (fun (w' : World) (hb : Below w1.heap.size w1 w') => (⟨((bcell hb).1 _ 0 el).trans e0, ((bcell hb).1 _ 1 el).trans e1, ((bcell hb).1 _ 2 el).trans e2, ((bcell hb).1 _ 3 el).trans e3, ((bcell hb).1 _ 4 el).trans e4, ((bcell hb).1 _ 5 el).trans e5, Nat.lt_of_lt_of_le el hb.size⟩ : w'.cell? ⟨w.heap.size, 0, none⟩ = some (.slice a0 n c0) ∧ w'.cell? ⟨w.heap.size, 1, none⟩ = some (.slice a1 m c1) ∧ w'.cell? ⟨w.heap.size, 2, none⟩ = some (.int .i64 RS.x) ∧ w'.cell? ⟨w.heap.size, 3, none⟩ = some (.int .i64 RS.y) ∧ w'.cell? ⟨w.heap.size, 4, none⟩ = some (.bool RS.far) ∧ w'.cell? ⟨w.heap.size, 5, none⟩ = some (.int .i64 s) ∧ w.heap.size < w'.heap.size))
  obtain ⟨r0, r1⟩ := hcp.out _ hB1.out
  clear hcc hb1 hb0 hEx
  rcases hR.out with rfl | ⟨rfl, h⟩
  · go_wp2
    go_ret
    exact ⟨rfl, balloc hB1.out _⟩
  have hB2 := Lib.hid (balloc hB1.out (.cells #[.int .i64 X.x, .int .i64 X.y, .bool X.far] 28))
  have hX2 := Lib.hid (SpAt.fresh w1 X.x X.y X.far 28)
  have hbX := Lib.hid (below_alloc w1 (.cells #[.int .i64 X.x, .int .i64 X.y, .bool X.far] 28))
  clear hR
  rcases h with ⟨h1, rfl⟩ | ⟨h1, h⟩
  · have d1 : decide ((1000 : Int) < (N.length : Int) + (m : Int)) = true := decide_eq_true (by omega)
    go_upto_region 4 with fail
    generalize w1.alloc (.cells #[.int .i64 X.x, .int .i64 X.y, .bool X.far] 28) = w2 at *
    clear r0 r1
    obtain ⟨r0, r1⟩ := hcp.out _ hB2.out
    clear e0 e1 e2 e3 e4 e5 el
    obtain ⟨e0, e1, e2, e3, e4, e5, el⟩ := hd.out _ hbX.out
    go_quiet (fail)
    go_wp2
    go_ret
    exact ⟨rfl, below_drewN hB2.out _⟩
  · have d1 : decide ((1000 : Int) < (N.length : Int) + (m : Int)) = false := decide_eq_false (by omega)
    go_upto_region 4 with fail
    generalize w1.alloc (.cells #[.int .i64 X.x, .int .i64 X.y, .bool X.far] 28) = w2 at *
    clear r0 r1
    obtain ⟨r0, r1⟩ := hcp.out _ hB2.out
    clear e0 e1 e2 e3 e4 e5 el
    obtain ⟨e0, e1, e2, e3, e4, e5, el⟩ := hd.out _ hbX.out
    go_quiet (fail)
    have hbq := below_drewN (Below.refl w2.heap.size w2) nq
    have hB3 := Lib.hid (below_seq hB2.out hbq)
    have hX3 := Lib.hid (hX2.out.below hbq)
    have hbX3 := Lib.hid (below_seq hbX.out hbq)
    generalize w2.drewN nq = w3 at *
    clear r0 r1 e0 e1 e2 e3 e4 e5 el hbq hB2 hX2 hbX hcp
    obtain ⟨e0, e1, e2, e3, e4, e5, el⟩ := hd.out _ hbX3.out
    rcases h with ⟨h2, rfl⟩ | ⟨⟨s0, s1⟩, h⟩
    · go_wp2_with fail
      refine (rest_n s _ h2).mono ?_; rintro e w' ⟨rfl, rfl⟩
      go_wp2
      go_ret
      exact ⟨rfl, hB3.out⟩
    · replace h := Lib.hid h
      go_wp2_with fail
      refine (rest_y s _ s0 s1).mono ?_; rintro e w' ⟨rfl, rfl⟩
      go_wp2_with fail
      rcases h.out with ⟨hc, hE⟩ | ⟨oR, rfl, hq⟩
      · have := check_bad RS w3 (hF'.out.below hB3.out) (by rw [hc]; exact hE)
        rw [hc] at this
        refine this.mono ?_; rintro e w4 ⟨rfl, hb4⟩
        go_wp2
        go_ret
        exact ⟨rfl, below_seq hB3.out hb4⟩
      · clear h
        replace hq := Lib.hid hq
        refine (check_ok RS _ (hF'.out.below hB3.out) oR).mono ?_; rintro e w4 ⟨rfl, hb4⟩
        have hB4 := Lib.hid (below_seq hB3.out hb4)
        have hX4 := Lib.hid (hX3.out.below hb4)
        have hbX4 := Lib.hid (below_seq hbX3.out hb4)
        clear e0 e1 e2 e3 e4 e5 el hb4 hB3 hX3 hbX3
        obtain ⟨e0, e1, e2, e3, e4, e5, el⟩ := hd.out _ hbX4.out
        obtain ⟨x0, x1, x2, -, -, -, xl⟩ := hX4.out
        have oX : Ok X := by rw [hX.out]; exact sq_ok _
        obtain ⟨c, hc⟩ : ∃ c, bAsk RS X = c := ⟨_, rfl⟩
        rw [hc] at hq
        replace hc := Lib.hid hc
        go_wp2_with fail
        refine (bask_y RS X c _ (hF'.out.below hB4.out) oR oX hc).mono ?_; rintro e w5 ⟨rfl, hb5⟩
        have hB5 := Lib.hid (below_seq hB4.out hb5)
        have hX5 := Lib.hid (hX4.out.below hb5)
        have hbX5 := Lib.hid (below_seq hbX4.out hb5)
        clear e0 e1 e2 e3 e4 e5 el x0 x1 x2 xl hb5 hB4 hX4 hbX4
        obtain ⟨e0, e1, e2, e3, e4, e5, el⟩ := hd.out _ hbX5.out
        obtain ⟨x0, x1, x2, -, -, -, xl⟩ := hX5.out
        obtain ⟨P, hP⟩ : ∃ P, sq (4 * hJ * s) = P := ⟨_, rfl⟩
        obtain ⟨T, hT⟩ : ∃ T, sq (4 * x * c) = T := ⟨_, rfl⟩
        obtain ⟨D, hD⟩ : ∃ D, sSum RS T = D := ⟨_, rfl⟩
        have oT : Ok T := by rw [← hT]; exact sq_ok _
        rw [hP, hT, hD] at hq
        have hq := hq.out
        replace hP := Lib.hid hP
        replace hT := Lib.hid hT
        replace hD := Lib.hid hD
        have hF5 := Lib.hid (hF'.out.below hB5.out)
        have hX' := hX
        have cS := Lib.hid (fun (w1 : World) hF1 => second_c w1 hF1)
        obtain ⟨Z, hZ⟩ : ∃ Z, Z = sq (4 * hJ) := ⟨_, rfl⟩
        rw [← hZ] at cS
        replace hZ := Lib.hid hZ
        clear hX hd
        go_upto_region 14 with fail
        refine wp_region_grow Tryz.mixed (by kernel_rfl) ?_
        iterate 8 (quiet_step (first | (go_at_call 50; exact grow_of (cS.out _ (hF5.out.below (Grew.h _)))) | (go_at_call 37; exact grow_of (of_e Z P (4 * hJ) s _ (hF5.out.below (Grew.h _)) hZ hP))))
        repeat (quiet_step (first | (go_at_call 37; exact grow_of (of_e X T (4 * x) c _ (hF5.out.below (Grew.h _)) hX' hT)) | (go_at_call 47; exact grow_of (sum_e RS T D _ (hF5.out.below (Grew.h _)) oR oT hD))))
        refine wpQuiet_nil ?_
        intro _ hw'
        obtain ⟨y, rfl⟩ := hw'
        have hB6 := below_seq hB5.out y.h
        clear e0 e1 e2 e3 e4 e5 el x0 x1 x2 xl
        go_wp2
        go_ret
        exact ⟨rfl, hB6⟩
end Go.Proofs.YtjjmelhhalomaaaGreatDoor
namespace Go.Proofs.YtjjmelhhalomaaaGreatDoor
open Go.RowKit
set_option maxRecDepth 100000
set_option linter.unusedVariables false
set_option linter.unusedSimpArgs false
/-- The blocks of a book. -/
def inB (p : Nat) (vc vg : Value) (k : Nat) : Prop := k = p ∨ vc.ownBlock = some k ∨ vg.ownBlock = some k
/-- All blocks but some stay. -/
structure But (S : Nat → Prop) (w w' : World) : Prop where
  os : w'.os = w.os
  tape : w'.tape = w.tape
  output : w'.output = w.output
  size : w.heap.size ≤ w'.heap.size
  block : ∀ k, k < w.heap.size → ¬ S k → w'.heap[k]? = w.heap[k]?
theorem But.refl (S : Nat → Prop) (w : World) : But S w w := ⟨rfl, rfl, rfl, Nat.le_refl _, fun _ _ _ => rfl⟩
theorem But.trans {S : Nat → Prop} {a b c : World} (h : But S a b) (k : But S b c) : But S a c :=
  ⟨k.os.trans h.os, k.tape.trans h.tape, k.output.trans h.output, Nat.le_trans h.size k.size, fun i hi hs => (k.block i (Nat.lt_of_lt_of_le hi h.size) hs).trans (h.block i hi hs)⟩
/-- Blocks that were not there may be let out. -/
theorem But.mono {S T : Nat → Prop} {a b : World} (h : But S a b) (hs : ∀ k, k < a.heap.size → S k → T k) : But T a b :=
  ⟨h.os, h.tape, h.output, h.size, fun k hk ht => h.block k hk fun s => ht (hs k hk s)⟩
theorem But.of_below {S : Nat → Prop} {a b : World} (h : Below a.heap.size a b) : But S a b := ⟨h.os, h.tape, h.output, h.size, fun k hk _ => h.block k hk⟩
theorem But.of_grown {S : Nat → Prop} {a b : World} {r : Option Nat} (h : a.grownBy b r) (hr : ∀ k, r = some k → S k) : But S a b :=
  ⟨h.os, h.tape, h.output, h.size, fun k hk hs => h.block k hk fun e => hs (hr k e.symm)⟩
theorem But.below {S : Nat → Prop} {a b : World} {B : Nat} (h : But S a b) (hB : B ≤ a.heap.size) (hs : ∀ k, S k → B ≤ k) : Below B a b :=
  ⟨h.os, h.tape, h.output, h.size, fun k hk => h.block k (Nat.lt_of_lt_of_le hk hB) fun s => Nat.lt_irrefl _ (Nat.lt_of_lt_of_le hk (hs k s))⟩
theorem But.cell {S : Nat → Prop} {a b : World} (h : But S a b) {k : Nat} (hk : k < a.heap.size) (hs : ¬ S k) (o : Nat) : b.cell? ⟨k, o, none⟩ = a.cell? ⟨k, o, none⟩ := World.cell?_of_block (h.block k hk hs)
theorem But.setCell {S : Nat → Prop} {a : World} {p : Addr} (hp : S p.block) (u : Value) : But S a (a.setCell p u) :=
  ⟨rfl, rfl, rfl, by simp, fun k _ hk => heap_setCell_other a p k u (fun e => hk (e ▸ hp))⟩
/-- Another book stays. -/
theorem BkV.but {w w' : World} {B p : Nat} {vc vg : Value} {N : List Int} {G : List Bool} {S : Nat → Prop} (h : BkV w B p vc vg N G) (hb : But S w w') (hs : ∀ k, inB p vc vg k → ¬ S k) : BkV w' B p vc vg N G :=
  h.keep hb.size fun k hk => hb.block k (h.blk k hk).2 (hs k hk)
/-- A coin goes. -/
theorem BkV.setg {w : World} {B p : Nat} {vc : Value} {g c : Nat} {N : List Int} {G : List Bool} (h : BkV w B p vc (.slice (some ⟨g, 0, none⟩) N.length c) N G) (j : Nat) : BkV (w.setCell ⟨g, j, none⟩ (.bool true)) B p vc (.slice (some ⟨g, 0, none⟩) N.length c) N (G.set j true) := by
  obtain ⟨s1, s2⟩ := h.rg.stored j (.bool true)
  have hne : (⟨p, 0, none⟩ : Addr).block ≠ g := fun e => h.ng (by simp [Value.ownBlock]; exact e.symm)
  have hb : (w.setCell ⟨g, j, none⟩ (.bool true)).heap[p]? = w.heap[p]? := s2.block p h.lt (fun e => hne (Option.some.inj e))
  refine ⟨(World.cell?_of_block hb).trans h.c0, (World.cell?_of_block hb).trans h.c1, (World.frozen?_of_block hb).trans h.f0, (World.frozen?_of_block hb).trans h.f1, Nat.lt_of_lt_of_le h.lt s2.size, h.bp, ?_, ?_, by rw [List.length_set]; exact h.ln, h.ap, h.nc, h.ng⟩
  · refine own_keep h.rc fun k hk => s2.block k (h.rc.lt k hk).2 fun e => h.ap k hk (by simp [Value.ownBlock]; exact (Option.some.inj e).symm)
  · rw [List.map_set]; exact s1
/-- Which are gone behind a deal. -/
def goneL (G : List Bool) (l : List Int) : List Bool := l.foldl (fun G g => G.set g.toNat true) G
theorem goneL_snoc (G : List Bool) (l : List Int) (g : Int) : goneL G (l ++ [g]) = (goneL G l).set g.toNat true := by unfold goneL; rw [List.foldl_append]; rfl
theorem goneL_len (G : List Bool) (l : List Int) : (goneL G l).length = G.length := by
  induction l generalizing G with
  | nil => rfl
  | cons a l ih => show (goneL (G.set a.toNat true) l).length = _; rw [ih, List.length_set]
/-- What a deal that is done leaves: the book with its new coins; its blocks are its own elder ones or new; all others stay. -/
def Did (w w' : World) (B p : Nat) (vc vg : Value) (N' : List Int) (G' : List Bool) : Prop :=
  ∃ vc' vg', BkV w' B p vc' vg' N' G' ∧ (∀ k, inB p vc' vg' k → inB p vc vg k ∨ w.heap.size ≤ k) ∧ But (inB p vc vg) w w'
/-- The coins' row grown and stored. -/
theorem BkV.grow {w w1 : World} {B p : Nat} {vc vg v' : Value} {N M : List Int} {G : List Bool} (h : BkV w B p vc vg N G) (hB : B ≤ w.heap.size) (hr : w1.ownsRow B 28 3 v' (N.length + M.length) (spCells (N.map qS) ++ spCells (M.map qS))) (hg : w.grownBy w1 vc.ownBlock) (hl : v'.ownBlock = vc.ownBlock ∨ v'.ownBlock = some w.heap.size) :
    w1.cell? ⟨p, 0, none⟩ = some vc ∧ w1.cell? ⟨p, 1, none⟩ = some vg ∧ w1.frozen? ⟨p, 0, none⟩ = false ∧ w1.frozen? ⟨p, 1, none⟩ = false ∧ p < w1.heap.size ∧ w1.ownsRow B 4 1 vg N.length (G.map Value.bool) ∧ Ap v' vg ∧ v'.ownBlock ≠ some p := by
  have hb : w1.heap[p]? = w.heap[p]? := hg.block p h.lt (fun e => h.nc e.symm)
  obtain ⟨r1, r2⟩ := row_pair h.rg h.ap hg hl
  refine ⟨(World.cell?_of_block hb).trans h.c0, (World.cell?_of_block hb).trans h.c1, (World.frozen?_of_block hb).trans h.f0, (World.frozen?_of_block hb).trans h.f1, Nat.lt_of_lt_of_le h.lt hg.size, r1, r2, ?_⟩
  rcases hl with e | e
  · rw [e]; exact h.nc
  · rw [e]; intro e2; have := h.lt; cases e2; omega
/-- A field of the book stored: its rows stay. -/
theorem half {w : World} {B p n1 n2 : Nat} {vg V V0 : Value} {xs ys : List Value} (z0 : w.cell? ⟨p, 0, none⟩ = some V0) (z1 : w.cell? ⟨p, 1, none⟩ = some vg) (z2 : w.frozen? ⟨p, 0, none⟩ = false) (z3 : w.frozen? ⟨p, 1, none⟩ = false) (z4 : p < w.heap.size) (rg : w.ownsRow B 4 1 vg n2 ys) (rc : w.ownsRow B 28 3 V n1 xs) (hc : V.ownBlock ≠ some p) (hg : vg.ownBlock ≠ some p) :
    (w.setCell ⟨p, 0, none⟩ V).cell? ⟨p, 0, none⟩ = some V ∧ (w.setCell ⟨p, 0, none⟩ V).cell? ⟨p, 1, none⟩ = some vg ∧ (w.setCell ⟨p, 0, none⟩ V).frozen? ⟨p, 0, none⟩ = false ∧ (w.setCell ⟨p, 0, none⟩ V).frozen? ⟨p, 1, none⟩ = false ∧ (w.setCell ⟨p, 0, none⟩ V).ownsRow B 4 1 vg n2 ys ∧ (w.setCell ⟨p, 0, none⟩ V).ownsRow B 28 3 V n1 xs := by
  refine ⟨World.cell?_setCell_same _ _ _ z0, by rw [World.cell?_setCell_other (h := by simp)]; exact z1, by simpa using z2, by simpa using z3, own_keep rg fun k hk => ?_, own_keep rc fun k hk => ?_⟩
  · exact heap_setCell_other w ⟨p, 0, none⟩ k V (fun e => hg (by rw [hk]; exact congrArg some e))
  · exact heap_setCell_other w ⟨p, 0, none⟩ k V (fun e => hc (by rw [hk]; exact congrArg some e))
theorem full {w : World} {B p : Nat} {vc V V0 : Value} {N : List Int} {G : List Bool} (z0 : w.cell? ⟨p, 0, none⟩ = some vc) (z1 : w.cell? ⟨p, 1, none⟩ = some V0) (z2 : w.frozen? ⟨p, 0, none⟩ = false) (z3 : w.frozen? ⟨p, 1, none⟩ = false) (z4 : p < w.heap.size) (hB : B ≤ p) (rg : w.ownsRow B 4 1 V N.length (G.map Value.bool)) (rc : w.ownsRow B 28 3 vc N.length (spCells (N.map qS))) (ln : G.length = N.length) (ap : Ap vc V) (hc : vc.ownBlock ≠ some p) (hg : V.ownBlock ≠ some p) :
    BkV (w.setCell ⟨p, 1, none⟩ V) B p vc V N G := by
  refine ⟨by rw [World.cell?_setCell_other (h := by simp)]; exact z0, World.cell?_setCell_same _ _ _ z1, by simpa using z2, by simpa using z3, by simpa using z4, hB, own_keep rc fun k hk => ?_, own_keep rg fun k hk => ?_, ln, ap, hc, hg⟩
  · exact heap_setCell_other w ⟨p, 1, none⟩ k V (fun e => hc (by rw [hk]; exact congrArg some e))
  · exact heap_setCell_other w ⟨p, 1, none⟩ k V (fun e => hg (by rw [hk]; exact congrArg some e))
end Go.Proofs.YtjjmelhhalomaaaGreatDoor
namespace Go.Proofs.YtjjmelhhalomaaaGreatDoor
open Go.RowKit
set_option maxRecDepth 100000
set_option linter.unusedVariables false
set_option linter.unusedSimpArgs false
def LiftIs (x : Int) (L : Sp) (E : Value) : Prop := ∀ w : World, Calls Tryz.prog 38 #[.int .i64 x] w fun e w' => e = .returned (.tuple #[spV L, E]) ∧ Below w.heap.size w w'
theorem wrap_two (c d : UInt8) : IntKind.i64.wrap (IntKind.i64.wrap (IntKind.i64.wrap (c.toNat : Int) * 256) + IntKind.i64.wrap (d.toNat : Int)) = (c.toNat : Int) * 256 + (d.toNat : Int) := by
  have := c.toNat_lt; have := d.toNat_lt
  rw [IntWalk.i64_in (c.toNat : Int) (by omega), IntWalk.i64_in (d.toNat : Int) (by omega), IntWalk.i64_in ((c.toNat : Int) * 256) (by omega), IntWalk.i64_in _ (by omega)]
/-- What Unpack makes of three bytes whose place lifts to L, with error E. -/
def unS (c0 : UInt8) (L : Sp) : Sp := if c0.toNat = 2 then sTurned L else L
set_option maxHeartbeats 2000000 in
theorem unpack_core (c0 c1 c2 : UInt8) (w : World) (L : Sp) (E R : Value) (hF : FarAt w) (h : LiftIs ((c1.toNat : Int) * 256 + (c2.toNat : Int)) L E)
    (hbad : Hid (∀ k, E = .iface 84 (.int .i64 k) → R = .tuple #[spV ⟨0, 0, false⟩, .iface 84 (.int .i64 2)]))
    (hE : Hid ((E = .nilIface ∧ Ok L) ∨ ∃ k, E = .iface 84 (.int .i64 k)))
    (hok : Hid (E = .nilIface → R = if ((sBytes (unS c0 L)).toList == [c0, c1, c2]) = true then .tuple #[spV (unS c0 L), .nilIface] else .tuple #[spV ⟨0, 0, false⟩, .iface 84 (.int .i64 2)])) :
    Calls Tryz.prog 162 #[.string ⟨#[c0, c1, c2]⟩] w fun e w' => e = .returned R ∧ Below w.heap.size w w' := by
  have hw := Lib.hid (wrap_two c1 c2)
  go_enter Tryz.func162, Tryz.ntmps162
  go_upto_region 5 with fail
  go_cut [4, 5] (fun s4 s5 wx => ∃ g : Nat, s4 = .pointer (some ⟨g, 0, none⟩) ∧ s5 = E ∧ Below w.heap.size w wx ∧ SpAt wx w.heap.size ⟨0, 0, false⟩ ∧ SpAt wx g L ∧ w.heap.size < g)
  case first =>
    go_region_with (first | (go_at_call 38; change Calls _ _ #[.int .i64 (IntKind.i64.wrap (IntKind.i64.wrap (IntKind.i64.wrap (c1.toNat : Int) * 256) + IntKind.i64.wrap (c2.toNat : Int)))] _ _; rw [hw.out]; refine (h _).mono ?_; rintro e w1 ⟨rfl, hb⟩; obtain ⟨hc, hf⟩ := bcell hb))
    all_goals
      go_wp2_with fail
      go_meet
      have hz := hb.size
      simp only [World.size_alloc, World.size_drew] at hz
      refine ⟨_, rfl, rfl, ?_, ?_, ?_, ?_⟩
      · have hB1 : Below w.heap.size w w1 := below_seq (by repeat (first | exact Below.refl _ _ | refine balloc ?_ _ | refine Below.drew ?_)) hb
        repeat (first | exact hB1 | refine balloc ?_ _ | refine below_set ?_ (by first | omega | (dsimp only; omega)) _)
      · repeat (first | exact SpAt.fresh _ _ _ _ _ | exact SpAt.fresh1 _ _ _ _ _ _ | refine SpAt.set3 (s := ⟨0, 0, false⟩) ?_ _ | refine SpAt.set3o ?_ (by omega) _ _ _ | refine SpAt.drew ?_ | refine SpAt.alloc ?_ _ | refine SpAt.below ?_ hb)
      · repeat (first | exact SpAt.fresh _ _ _ _ _ | exact SpAt.fresh1 _ _ _ _ _ _ | refine SpAt.set3 (s := ⟨0, 0, false⟩) ?_ _ | refine SpAt.set3o ?_ (by omega) _ _ _ | refine SpAt.drew ?_ | refine SpAt.alloc ?_ _ | refine SpAt.below ?_ hb)
      · omega
  case rest =>
    obtain ⟨g, rfl, rfl, hB, hr, hg, hlt⟩ := hcut
    rcases hE.out with ⟨rfl, hL⟩ | ⟨k, rfl⟩
    · have hg' := hg
      obtain ⟨g0, g1, g2, fg0, fg1, fg2, hgl⟩ := hg'
      go_wp2_with fail
      · refine (turned_k L _ hL).mono ?_; rintro e w2 ⟨rfl, hb⟩
        have hg2 := hg.below hb
        have hr2 := hr.below hb
        have hB2 := below_seq hB hb
        clear g0 g1 g2 fg0 fg1 fg2 hgl hg hr hb hB
        have hg' := hg2
        obtain ⟨g0, g1, g2, fg0, fg1, fg2, hgl⟩ := hg'
        go_wp2_with fail
        refine (bytesOf_c (sTurned L) _ (turned_ok hL).1).mono ?_; rintro e w3 ⟨rfl, hb⟩
        have hg3 := (hg2.set3 (sTurned L)).below hb
        have hr3 := (hr2.set3o (by omega) _ _ _).below hb
        have hB3 := below_seq (set3_below hB2 (by omega)) hb
        clear g0 g1 g2 fg0 fg1 fg2 hgl hg2 hr2 hb hB2
        obtain ⟨g0, g1, g2, fg0, fg1, fg2, hgl⟩ := hg3
        obtain ⟨r0, r1, r2, fr0, fr1, fr2, hrl⟩ := hr3
        have eS0 : unS c0 L = sTurned L := by
          have q : ((c0.toNat : Int) == 2) = true := by assumption
          unfold unS; rw [if_pos (by simp at q; omega)]
        have eS := Lib.hid eS0
        clear eS0
        have ho := Lib.hid (hok.out trivial)
        clear hbad hE h
        go_wp2
        · rename_i hq
          have hR : R = .tuple #[spV ⟨0, 0, false⟩, .iface 84 (.int .i64 2)] := by rw [ho.out, eS.out, if_neg (by simpa using hq)]
          have k := set3_cell (w := w3) (x := .int .i64 0) (y := .int .i64 0) (z := .bool false) r0 r1 r2
          rw [hR]
          refine bodyPost_ret (v := .tuple #[spV ⟨0, 0, false⟩, .iface 84 (.int .i64 2)]) (by simp [results, Tryz.results162, go_sem, k.1, k.2.1, k.2.2]) rfl ⟨rfl, set3_below hB3 (by omega)⟩
        · rename_i hq
          have hR : R = .tuple #[spV (sTurned L), .nilIface] := by rw [ho.out, eS.out, if_pos (by simpa using hq)]
          have k := set3_cell (w := w3) (x := .int .i64 (sTurned L).x) (y := .int .i64 (sTurned L).y) (z := .bool (sTurned L).far) r0 r1 r2
          rw [hR]
          refine bodyPost_ret (v := .tuple #[spV (sTurned L), .nilIface]) (by simp [results, Tryz.results162, go_sem, k.1, k.2.1, k.2.2]) rfl ⟨rfl, set3_below hB3 (by omega)⟩
      · refine (bytesOf_c L _ hL).mono ?_; rintro e w3 ⟨rfl, hb⟩
        have hg3 := hg.below hb
        have hr3 := hr.below hb
        have hB3 := below_seq hB hb
        clear g0 g1 g2 fg0 fg1 fg2 hgl hg hr hb hB
        obtain ⟨g0, g1, g2, fg0, fg1, fg2, hgl⟩ := hg3
        obtain ⟨r0, r1, r2, fr0, fr1, fr2, hrl⟩ := hr3
        have eS0 : unS c0 L = L := by
          have q : ((c0.toNat : Int) == 2) = false := by assumption
          unfold unS; rw [if_neg (by simp at q; omega)]
        have eS := Lib.hid eS0
        clear eS0
        have ho := Lib.hid (hok.out trivial)
        clear hbad hE h
        go_wp2
        · rename_i hq
          have hR : R = .tuple #[spV ⟨0, 0, false⟩, .iface 84 (.int .i64 2)] := by rw [ho.out, eS.out, if_neg (by simpa using hq)]
          have k := set3_cell (w := w3) (x := .int .i64 0) (y := .int .i64 0) (z := .bool false) r0 r1 r2
          rw [hR]
          refine bodyPost_ret (v := .tuple #[spV ⟨0, 0, false⟩, .iface 84 (.int .i64 2)]) (by simp [results, Tryz.results162, go_sem, k.1, k.2.1, k.2.2]) rfl ⟨rfl, set3_below hB3 (by omega)⟩
        · rename_i hq
          have hR : R = .tuple #[spV (L), .nilIface] := by rw [ho.out, eS.out, if_pos (by simpa using hq)]
          have k := set3_cell (w := w3) (x := .int .i64 (L).x) (y := .int .i64 (L).y) (z := .bool (L).far) r0 r1 r2
          rw [hR]
          refine bodyPost_ret (v := .tuple #[spV (L), .nilIface]) (by simp [results, Tryz.results162, go_sem, k.1, k.2.1, k.2.2]) rfl ⟨rfl, set3_below hB3 (by omega)⟩
    · have hR := Lib.hid (hbad.out k rfl)
      obtain ⟨r0, r1, r2, fr0, fr1, fr2, hrl⟩ := hr
      clear hg
      go_wp2
      have k := set3_cell (w := wc) (x := .int .i64 0) (y := .int .i64 0) (z := .bool false) r0 r1 r2
      rw [hR.out]
      refine bodyPost_ret (v := .tuple #[spV ⟨0, 0, false⟩, .iface 84 (.int .i64 2)]) (by simp [results, Tryz.results162, go_sem, k.1, k.2.1, k.2.2]) rfl ⟨rfl, set3_below hB (by omega)⟩
end Go.Proofs.YtjjmelhhalomaaaGreatDoor
namespace Go.Proofs.YtjjmelhhalomaaaGreatDoor
open Go.RowKit
set_option maxRecDepth 100000
set_option linter.unusedVariables false
set_option linter.unusedSimpArgs false
set_option maxHeartbeats 1000000 in
theorem unpack_far (w : World) (hF : FarAt w) : Calls Tryz.prog 162 #[.string ⟨#[0]⟩] w fun e w' => e = .returned (.tuple #[spV sFar, .nilIface]) ∧ Below w.heap.size w w' := by
  obtain ⟨c0, c1, c2, hlt⟩ := hF
  go_enter Tryz.func162, Tryz.ntmps162
  go_wp2
  refine bodyPost_ret (v := .tuple #[spV sFar, .nilIface]) (by simp [results, Tryz.results162, go_sem, sFar]) rfl ⟨rfl, ?_⟩
  repeat (first | exact Below.refl _ _ | refine balloc ?_ _)
set_option maxHeartbeats 1000000 in
theorem unpack_len (b : ByteArray) (w : World) (h1 : (b.toList == [0]) = false) (h2 : ((b.size : Int) != 3) = true) (hz : b.size ≤ 140737488351232) : Calls Tryz.prog 162 #[.string b] w fun e w' => e = .returned (.tuple #[spV ⟨0, 0, false⟩, .iface 84 (.int .i64 2)]) ∧ Below w.heap.size w w' := by
  go_enter Tryz.func162, Tryz.ntmps162
  go_wp2
  refine bodyPost_ret (v := .tuple #[spV ⟨0, 0, false⟩, .iface 84 (.int .i64 2)]) (by simp [results, Tryz.results162, go_sem]) rfl ⟨rfl, ?_⟩
  repeat (first | exact Below.refl _ _ | refine balloc ?_ _)
def unpackR : List UInt8 → Option Sp
  | [c] => if c = 0 then some sFar else none
  | [c0, c1, c2] => if inside ((c1.toNat : Int) * 256 + (c2.toNat : Int)) = true ∧ isSq (height ((c1.toNat : Int) * 256 + (c2.toNat : Int))) = true then
      (if ((sBytes (unS c0 (lifted ((c1.toNat : Int) * 256 + (c2.toNat : Int))))).toList == [c0, c1, c2]) = true then some (unS c0 (lifted ((c1.toNat : Int) * 256 + (c2.toNat : Int)))) else none) else none
  | _ => none
theorem unpackR_three (c0 c1 c2 : UInt8) : unpackR [c0, c1, c2] = if inside ((c1.toNat : Int) * 256 + (c2.toNat : Int)) = true ∧ isSq (height ((c1.toNat : Int) * 256 + (c2.toNat : Int))) = true then
      (if ((sBytes (unS c0 (lifted ((c1.toNat : Int) * 256 + (c2.toNat : Int))))).toList == [c0, c1, c2]) = true then some (unS c0 (lifted ((c1.toNat : Int) * 256 + (c2.toNat : Int)))) else none) else none := rfl
def unV : Option Sp → Value
  | some s => .tuple #[spV s, .nilIface]
  | none => .tuple #[spV ⟨0, 0, false⟩, .iface 84 (.int .i64 2)]
theorem unpack_c (b : ByteArray) (w : World) (hF : FarAt w) (hz : b.size ≤ 140737488351232) : Calls Tryz.prog 162 #[.string b] w fun e w' => e = .returned (unV (unpackR b.data.toList)) ∧ Below w.heap.size w w' := by
  obtain ⟨⟨l⟩⟩ := b
  have len : (⟨⟨l⟩⟩ : ByteArray).size = l.length := rfl
  have tl : (⟨⟨l⟩⟩ : ByteArray).toList = l := by rw [ByteArray.toList_eq]
  by_cases h1 : l = [0]
  · subst h1; exact unpack_far w hF
  by_cases h3 : l.length = 3
  · match l, h3 with
    | [c0, c1, c2], _ =>
      have hlt1 := c1.toNat_lt; have hlt2 := c2.toNat_lt
      by_cases hi : inside ((c1.toNat : Int) * 256 + (c2.toNat : Int)) = true
      · by_cases hs : isSq (height ((c1.toNat : Int) * 256 + (c2.toNat : Int))) = true
        · refine unpack_core c0 c1 c2 w (lifted ((c1.toNat : Int) * 256 + (c2.toNat : Int))) .nilIface _ hF (fun w => lift_yes _ w hi hs) (fun k e => by cases e) (Or.inl ⟨rfl, lifted_ok hi hs⟩) (fun _ => ?_)
          show unV (unpackR [c0, c1, c2]) = _
          rw [unpackR_three]; rw [if_pos ⟨hi, hs⟩]; split <;> rfl
        · refine unpack_core c0 c1 c2 w ⟨0, 0, false⟩ (.iface 84 (.int .i64 5)) _ hF (fun w => lift_no _ w hi (by simpa using hs)) (fun k e => ?_) (Or.inr ⟨5, rfl⟩) (fun e => by cases e)
          show unV (unpackR [c0, c1, c2]) = _
          rw [unpackR_three]; rw [if_neg (fun h => hs h.2)]; rfl
      · refine unpack_core c0 c1 c2 w ⟨0, 0, false⟩ (.iface 84 (.int .i64 1)) _ hF (fun w => lift_out _ w (by simpa using hi)) (fun k e => ?_) (Or.inr ⟨1, rfl⟩) (fun e => by cases e)
        show unV (unpackR [c0, c1, c2]) = _
        rw [unpackR_three]; rw [if_neg (fun h => hi h.1)]; rfl
  · have e : unpackR l = none := by
      match l, h1, h3 with
      | [], _, _ => rfl
      | [c], h, _ => show (if c = 0 then some sFar else none) = none; rw [if_neg (fun e => h (by rw [e]))]
      | [_, _], _, _ => rfl
      | [_, _, _], _, h => exact absurd rfl h
      | _ :: _ :: _ :: _ :: _, _, _ => rfl
    have := unpack_len ⟨⟨l⟩⟩ w (by rw [tl]; simpa using h1) (by rw [len]; rw [bne_iff_ne]; omega) hz
    rw [show unpackR (⟨⟨l⟩⟩ : ByteArray).data.toList = none from e]
    exact this
end Go.Proofs.YtjjmelhhalomaaaGreatDoor
namespace Go.Proofs.YtjjmelhhalomaaaGreatDoor
open Go.RowKit
set_option maxRecDepth 100000
set_option linter.unusedVariables false
set_option linter.unusedSimpArgs false
/-- Two bytes of a place are it again. -/
theorem two_bytes {x : Int} (h0 : 0 ≤ x) (h1 : x < 4051) : ((UInt8.ofNat (x / 256).toNat).toNat : Int) * 256 + ((UInt8.ofNat (x % 256).toNat).toNat : Int) = x := by
  rw [UInt8.toNat_ofNat', UInt8.toNat_ofNat']; omega
theorem sBytes_far {s : Sp} (hf : s.far = true) : (sBytes s).data.toList = [0] := by unfold sBytes; rw [if_pos hf]
theorem sBytes_big {s : Sp} (hf : s.far = false) (hy : pOf (-s.y) < s.y) : (sBytes s).data.toList = [2, UInt8.ofNat (s.x / 256).toNat, UInt8.ofNat (s.x % 256).toNat] := by
  unfold sBytes; rw [if_neg (by rw [hf]; decide), if_pos hy, strOfNums_data]; rfl
theorem sBytes_small {s : Sp} (hf : s.far = false) (hy : ¬ pOf (-s.y) < s.y) : (sBytes s).data.toList = [1, UInt8.ofNat (s.x / 256).toNat, UInt8.ofNat (s.x % 256).toNat] := by
  unfold sBytes; rw [if_neg (by rw [hf]; decide), if_neg hy, strOfNums_data]; rfl
theorem unpack_sBytes {s : Sp} (h : Ok s) : unpackR (sBytes s).data.toList = some s := by
  cases hf : s.far
  · have hx := two_bytes h.x0 h.x1
    have hs := ok_isSq h hf
    by_cases hy : pOf (-s.y) < s.y
    · rw [sBytes_big hf hy, unpackR_three, hx, if_pos ⟨h.ins, hs⟩]
      have e : unS 2 (lifted s.x) = s := by unfold unS; rw [if_pos (by decide)]; exact (lifted_gt h hf hy).symm
      rw [e, if_pos]; rw [ByteArray.toList_eq, sBytes_big hf hy]; simp
    · rw [sBytes_small hf hy, unpackR_three, hx, if_pos ⟨h.ins, hs⟩]
      have e : unS 1 (lifted s.x) = s := by unfold unS; rw [if_neg (by decide)]; exact (lifted_le h hf (by omega)).symm
      rw [e, if_pos]; rw [ByteArray.toList_eq, sBytes_small hf hy]; simp
  · rw [sBytes_far hf]; show (if (0 : UInt8) = 0 then some sFar else none) = some s
    rw [if_pos rfl, h.far_eq hf]
theorem unpack_some {l : List UInt8} {s : Sp} (h : unpackR l = some s) : Ok s ∧ (sBytes s).data.toList = l := by
  match l, h with
  | [c], h =>
    have h : (if c = 0 then some sFar else none) = some s := h
    split at h
    · rename_i e; cases h; exact ⟨ok_far, by rw [sBytes_far rfl, e]⟩
    · cases h
  | [c0, c1, c2], h =>
    rw [unpackR_three] at h
    split at h
    · rename_i hi
      split at h
      · rename_i he
        have hl := lifted_ok hi.1 hi.2
        rw [ByteArray.toList_eq] at he
        cases h
        refine ⟨?_, by simpa using he⟩
        unfold unS; split
        · exact (turned_ok hl).1
        · exact hl
      · cases h
    · cases h
  | [], h => cases h
  | [_, _], h => cases h
  | _ :: _ :: _ :: _ :: _, h => cases h
theorem bytes_ext {a b : ByteArray} (h : a.data.toList = b.data.toList) : a = b := by
  obtain ⟨⟨x⟩⟩ := a; obtain ⟨⟨y⟩⟩ := b; simp only at h; rw [h]
theorem sBytes_inj {s t : Sp} (hs : Ok s) (ht : Ok t) (h : sBytes s = sBytes t) : s = t := by
  have := unpack_sBytes hs; rw [h, unpack_sBytes ht] at this; exact (Option.some.inj this).symm
end Go.Proofs.YtjjmelhhalomaaaGreatDoor
namespace Go.Proofs.YtjjmelhhalomaaaGreatDoor
open Go.RowKit
set_option maxRecDepth 100000
set_option linter.unusedVariables false
set_option linter.unusedSimpArgs false
attribute [local go_sem ↓] Go.wp_at_zero Go.wp_at_succ
/-- Bytes as a string. -/
def bS (l : List UInt8) : ByteArray := ⟨l.toArray⟩
theorem bS_app (a b : List UInt8) : bS a ++ bS b = bS (a ++ b) := by
  have : (bS a ++ bS b).data = (bS (a ++ b)).data := by rw [ByteArray.data_append]; simp [bS]
  exact ByteArray.ext this
theorem bS_size (l : List UInt8) : (bS l).size = l.length := by simp [bS, ByteArray.size]
theorem bS_list (l : List UInt8) : (bS l).data.toList = l := by simp [bS]
def TenAt (w : World) : Prop := Lib.TabIs Tryz.prog w "internal/strconv.uint64pow10" .u64 Lib.pow10Tab
theorem TenAt.below {w w' : World} (h : TenAt w) (hb : Below w.heap.size w w') : TenAt w' := Joins.tab_stays (g := 7) (by kernel_rfl) h hb (Nat.le_refl _)
theorem itoa_n (n : Nat) (h : n < 1000000000) (w : World) (hT : TenAt w) : Calls Tryz.prog 98 #[.int .i64 (n : Int)] w fun e w' => e = .returned (.string (bS (Lib.decDigits n))) ∧ Below w.heap.size w w' := by
  refine (Tryz.strconv_Itoa (n : Int) (by omega) (by omega) w hT).mono ?_
  rintro e w' ⟨rfl, k, os, rfl⟩
  exact ⟨by rw [Lib.itoa_nonneg]; rfl, Lib.below_grow _ _ (Nat.le_refl _) _ _⟩
theorem numsB_snoc (l : List Nat) (n : Nat) : numsB (l ++ [n]) = numsB l ++ (Lib.decDigits n ++ [32]) := by
  unfold numsB; rw [List.map_append, List.flatten_append]; simp
theorem take_snocN (l : List Nat) (k : Nat) (h : k < l.length) : l.take (k + 1) = l.take k ++ [l[k]] := List.take_succ_eq_append_getElem h
theorem dec_len (n : Nat) (h : n < 1000000) : (Lib.decDigits n).length ≤ 6 := by rw [Lib.decDigits_length]; exact nDigits_le n 5 (by omega)
set_option maxHeartbeats 4000000 in
theorem lnum_c (l : List Nat) (v : Value) (w : World) (hl : l.length ≤ 1000) (hb : ∀ n ∈ l, n < 1000000) (hs : IntSl w v (l.map fun n : Nat => (n : Int))) (hT : TenAt w) :
    Calls Tryz.prog 97 #[v] w fun e w' => e = .returned (.string (bS (numsB (l.length :: l)))) ∧ Below w.heap.size w w' := by
  obtain ⟨a, cap, rfl, hsl⟩ := hs
  rw [List.length_map] at hsl ⊢
  replace hsl := Lib.hid hsl
  replace hb := Lib.hid hb
  have hT' := Lib.hid hT
  have hz0 : (bS (Lib.decDigits l.length)).size ≤ 6 := by rw [bS_size]; exact dec_len _ (by omega)
  go_enter Tryz.func97, Tryz.ntmps97
  go_wp2_with fail
  refine (itoa_n l.length (by omega) _ hT).mono ?_; rintro e w1 ⟨rfl, hb1⟩
  have hB1 := Lib.hid hb1
  clear hb1 hT
  go_wp2
  go_loopw [3, 12] (fun s i wr => ∃ n : Nat, n ≤ l.length ∧ i = .int .i64 n ∧ s = .string (bS (numsB (l.length :: l.take n))) ∧ Below w.heap.size w wr) (fun _ i _ => l.length - (intOf i).toNat)
  case atStart =>
    refine ⟨0, Nat.zero_le _, rfl, congrArg Value.string ?_, hB1.out⟩
    show bS _ ++ bS [32] = _
    rw [bS_app]; unfold numsB; simp
  case round =>
    clear hz0
    obtain ⟨n, hn, rfl, rfl, hB⟩ := hrel
    replace hB := Lib.hid hB
    by_cases hlt : n < l.length
    · obtain ⟨b, o, rfl, hI⟩ := hsl.out (by omega)
      have hI6 := hI.below hB.out
      have hjm : n < (l.map fun n : Nat => (n : Int)).length := by rw [List.length_map]; exact hlt
      have l1 := hI6.c n hjm
      have l2 := hI6.lt
      rw [List.getElem_map] at l1
      have hx := hb.out _ (List.getElem_mem hlt)
      have hsn : Hid (numsB (l.length :: l.take (n + 1)) = numsB (l.length :: l.take n) ++ (Lib.decDigits l[n] ++ [32])) := Lib.hid (by rw [take_snocN l n hlt, ← List.cons_append, numsB_snoc])
      have hq : (numsB (l.length :: l.take n)).length ≤ 7007 := by
        have h1 := numsB_len (l.length :: l.take n) (fun m hm => by
          rcases List.mem_cons.1 hm with h | h
          · omega
          · exact hb.out m (List.mem_of_mem_take h))
        simp only [List.length_cons, List.length_take] at h1
        omega
      generalize numsB (l.length :: l.take n) = S at *
      generalize l[n] = x at *
      have z1 : (bS S).size ≤ 7007 := by rw [bS_size]; exact hq
      have z2 : (bS (Lib.decDigits x)).size ≤ 6 := by rw [bS_size]; exact dec_len _ hx
      have z3 : ¬ (9223372036854775807 < (bS (Lib.decDigits x)).size + 1) := by omega
      have z4 : ¬ (9223372036854775807 < (bS S).size + ((bS (Lib.decDigits x)).size + 1)) := by omega
      clear hI hI6 hsl hb hq
      go_wp2_with fail
      refine (itoa_n x (by omega) _ (hT'.out.below hB.out)).mono ?_; rintro e w2 ⟨rfl, hb2⟩
      have hB2 := Lib.hid (below_seq hB.out hb2)
      clear l1 l2 hb2
      go_wp2
      go_roundw
      case rel =>
        refine ⟨n + 1, by omega, by go_num, congrArg Value.string ?_, hB2.out⟩
        show bS S ++ (bS _ ++ bS [32]) = _
        rw [hsn.out, bS_app, bS_app]
      case measure => simp [intOf]; omega
    · obtain rfl : n = l.length := by omega
      rw [List.take_length]
      go_wp2
      go_ret
      exact ⟨rfl, hB.out⟩
/-- A spot's number. -/
def codeL (l : List UInt8) : Nat := l.foldl (fun n c => n * 256 + c.toNat) 0
theorem codeL_snoc (l : List UInt8) (c : UInt8) : codeL (l ++ [c]) = codeL l * 256 + c.toNat := by unfold codeL; rw [List.foldl_append]; rfl
theorem codeL_take (l : List UInt8) (k : Nat) (h : k < l.length) : codeL (l.take (k + 1)) = codeL (l.take k) * 256 + l[k].toNat := by
  rw [List.take_succ_eq_append_getElem h, codeL_snoc]
theorem codeL_from : ∀ (l : List UInt8) (a : Nat), l.foldl (fun n c => n * 256 + c.toNat) a < (a + 1) * 256 ^ l.length
  | [], a => by simp
  | c :: l, a => by
    have h := codeL_from l (a * 256 + c.toNat)
    have hc := c.toNat_lt
    rw [List.foldl_cons, List.length_cons, Nat.pow_succ]
    refine Nat.lt_of_lt_of_le h ?_
    rw [Nat.mul_comm (256 ^ l.length) 256, ← Nat.mul_assoc]
    exact Nat.mul_le_mul_right _ (by omega)
theorem codeL_lt (l : List UInt8) : codeL l < 256 ^ l.length := by
  have := codeL_from l 0
  rw [Nat.zero_add, Nat.one_mul] at this
  exact this
set_option maxHeartbeats 1000000 in
theorem lcode_c (s : ByteArray) (w : World) (hs : s.size ≤ 3) : Calls Tryz.prog 95 #[.string s] w fun e w' => e = .returned (.int .i64 ((codeL s.data.toList : Nat) : Int)) ∧ Below w.heap.size w w' := by
  obtain ⟨cap, w1, hconv, hb, hc⟩ := conv_bytes s w
  have hlen : s.data.toList.length = s.size := rfl
  have HL := Lib.hid hlen; clear hlen
  have HC := Lib.hid hc; clear hc
  have HS := Lib.hid hs
  go_enter Tryz.func95, Tryz.ntmps95
  go_wp2
  go_loop [3, 9] (fun n i => ∃ k : Nat, k ≤ s.size ∧ i = .int .i64 k ∧ n = .int .i64 ((codeL (s.data.toList.take k) : Nat) : Int)) (fun _ i => s.size - (intOf i).toNat)
  case atStart => exact ⟨0, Nat.zero_le _, rfl, by rw [List.take_zero]; rfl⟩
  case round =>
    obtain ⟨k, hk, rfl, rfl⟩ := hrel
    by_cases hlt : k < s.size
    · have h0 : codeL (s.data.toList.take k) < 65536 := by
        have h1 := codeL_lt (s.data.toList.take k)
        have h2 : (s.data.toList.take k).length ≤ 2 := by rw [List.length_take]; omega
        exact Nat.lt_of_lt_of_le h1 (Nat.pow_le_pow_right (by decide) h2)
      obtain ⟨c, hcell, h3, ht⟩ : ∃ c : UInt8, w1.cell? ⟨w.heap.size, k, none⟩ = some (.int .u8 c.toNat) ∧ c.toNat < 256 ∧ Hid (codeL (s.data.toList.take (k + 1)) = codeL (s.data.toList.take k) * 256 + c.toNat) := by
        have hl : k < s.data.toList.length := by have := HL.out; omega
        refine ⟨s.data.toList[k], ?_, UInt8.toNat_lt _, Lib.hid (codeL_take s.data.toList k hl)⟩
        have := HC.out k hlt
        rw [List.getD_eq_getElem?_getD, List.getElem?_eq_getElem hl] at this
        exact this
      generalize codeL (s.data.toList.take k) = C at *
      go_wp2
      go_round
      case rel => exact ⟨k + 1, by omega, by go_num, by rw [ht.out]; congr 1⟩
      case measure => simp [intOf]; omega
    · go_wp2
      go_ret
      exact ⟨ret_int (by rw [List.take_of_length_le (by have := HL.out; omega)]), hb⟩
def codeS (s : Sp) : Nat := codeL (sBytes s).data.toList
/-- The sign's byte of a spot that is not far. -/
def sgS (s : Sp) : Int := if pOf (-s.y) < s.y then 2 else 1
theorem sgS_bd (s : Sp) : 1 ≤ sgS s ∧ sgS s ≤ 2 := by unfold sgS; split <;> omega
theorem sBytes_near {s : Sp} (h : s.far = false) : sBytes s = strOfNums [sgS s, s.x / 256, s.x % 256] := by
  unfold sBytes sgS
  rw [if_neg (by simp [h])]
  split <;> rfl
theorem codeS_far {s : Sp} (h : s.far = true) : codeS s = 0 := by unfold codeS sBytes; rw [if_pos h]; rfl
theorem ofNat_toNat (n : Int) (h0 : 0 ≤ n) (h1 : n < 256) : ((UInt8.ofNat n.toNat).toNat : Int) = n := by
  rw [UInt8.toNat_ofNat_of_lt' (by show _ < 256; omega)]; omega
theorem codeS_near {s : Sp} (h : s.far = false) (x0 : 0 ≤ s.x) (x1 : s.x < 4051) : ((codeS s : Nat) : Int) = sgS s * 65536 + s.x := by
  obtain ⟨g1, g2⟩ := sgS_bd s
  have a1 := ofNat_toNat (sgS s) (by omega) (by omega)
  have a2 := ofNat_toNat (s.x / 256) (by omega) (by omega)
  have a3 := ofNat_toNat (s.x % 256) (by omega) (by omega)
  unfold codeS
  rw [sBytes_near h, strOfNums_data]
  simp only [codeL, List.map_cons, List.map_nil, List.foldl_cons, List.foldl_nil]
  omega
theorem codeS_lt {s : Sp} (h : Ok s) : codeS s < 200000 := by
  have x0 := h.x0; have x1 := h.x1
  cases hf : s.far
  · have := codeS_near hf x0 x1
    have := (sgS_bd s).2
    omega
  · rw [codeS_far hf]; decide
theorem lcodeS_c (s : Sp) (w : World) : Calls Tryz.prog 95 #[.string (sBytes s)] w fun e w' => e = .returned (.int .i64 ((codeS s : Nat) : Int)) ∧ Below w.heap.size w w' := lcode_c (sBytes s) w (sBytes_size s)
/-- What a record of a deal says. -/
def recD (gl : List Nat) (M : List Int) (RS : Sp) (s : Nat) : List UInt8 := recB gl (M.map fun m => codeS (qS m)) (codeS RS) s
set_option maxHeartbeats 8000000 in
theorem lrec_c (gl : List Nat) (M : List Int) (RS : Sp) (s : Nat) (a0 a1 : Option Addr) (c0 c1 : Nat) (w : World) (hT : TenAt w) (hg : gl.length ≤ 1000) (hgb : ∀ g ∈ gl, g < 1000000) (hm : M.length ≤ 12) (oR : Ok RS) (hs : s < 1013)
    (h0 : IntSl w (.slice a0 gl.length c0) (gl.map fun n : Nat => (n : Int))) (h1 : 0 < M.length → ∃ b o, a1 = some ⟨b, o, none⟩ ∧ SpotsAt w b o (M.map qS)) :
    Calls Tryz.prog 52 #[dlV (.slice a0 gl.length c0) (.slice a1 M.length c1) RS (s : Int)] w fun e w' => e = .returned (.string (bS (recD gl M RS s))) ∧ Below w.heap.size w w' := by
  obtain ⟨n, hn⟩ : ∃ n, gl.length = n := ⟨_, rfl⟩
  have hgz : (numsB (gl.length :: gl)).length ≤ 7007 := by
    have := numsB_len (gl.length :: gl) (fun m hm => by
      rcases List.mem_cons.1 hm with h | h
      · omega
      · exact hgb m h)
    simp only [List.length_cons] at this
    omega
  have kG := Lib.hid (fun (w1 : World) (hb : Below w.heap.size w w1) => lnum_c gl (.slice a0 gl.length c0) w1 hg hgb (h0.below hb) (hT.below hb))
  rw [hn] at kG h0 ⊢
  replace hn := Lib.hid hn
  replace h1 := Lib.hid h1
  have hT' := Lib.hid hT
  have b1 : (w.alloc (.cells #[.slice a0 n c0, .slice a1 M.length c1, .int .i64 RS.x, .int .i64 RS.y, .bool RS.far, .int .i64 s] 53)).cell? ⟨w.heap.size, 1, none⟩ = some (.slice a1 M.length c1) := by go_simp
  clear h0 hT hgb
  go_enter Tryz.func52, Tryz.ntmps52
  go_wp2_with fail
  clear b1
  obtain ⟨w0, hw0⟩ : ∃ x, x = w.alloc (.cells #[.slice a0 n c0, .slice a1 M.length c1, .int .i64 RS.x, .int .i64 RS.y, .bool RS.far, .int .i64 s] 53) := ⟨_, rfl⟩
  rw [← hw0]
  have hB0 : Below w.heap.size w w0 := by rw [hw0]; exact below_alloc _ _
  have e0 : w0.cell? ⟨w.heap.size, 0, none⟩ = some (.slice a0 n c0) := by rw [hw0]; go_simp
  have e2 : w0.cell? ⟨w.heap.size, 2, none⟩ = some (.int .i64 RS.x) := by rw [hw0]; go_simp
  have e3 : w0.cell? ⟨w.heap.size, 3, none⟩ = some (.int .i64 RS.y) := by rw [hw0]; go_simp
  have e4 : w0.cell? ⟨w.heap.size, 4, none⟩ = some (.bool RS.far) := by rw [hw0]; go_simp
  have e5 : w0.cell? ⟨w.heap.size, 5, none⟩ = some (.int .i64 s) := by rw [hw0]; go_simp
  have el : w.heap.size < w0.heap.size := by rw [hw0]; simp
  clear hw0
  have hd := Lib.hid (fun (w' : World) (hb : Below w0.heap.size w0 w') => (⟨((bcell hb).1 _ 0 el).trans e0, ((bcell hb).1 _ 2 el).trans e2, ((bcell hb).1 _ 3 el).trans e3, ((bcell hb).1 _ 4 el).trans e4, ((bcell hb).1 _ 5 el).trans e5, Nat.lt_of_lt_of_le el hb.size⟩ : w'.cell? ⟨w.heap.size, 0, none⟩ = some (.slice a0 n c0) ∧ w'.cell? ⟨w.heap.size, 2, none⟩ = some (.int .i64 RS.x) ∧ w'.cell? ⟨w.heap.size, 3, none⟩ = some (.int .i64 RS.y) ∧ w'.cell? ⟨w.heap.size, 4, none⟩ = some (.bool RS.far) ∧ w'.cell? ⟨w.heap.size, 5, none⟩ = some (.int .i64 s) ∧ w.heap.size < w'.heap.size))
  replace hB0 := Lib.hid hB0
  clear e0 e2 e3 e4 e5 el
  obtain ⟨KL, hKL⟩ : ∃ KL : List Int, (M.map fun m => ((codeS (qS m) : Nat) : Int)) = KL := ⟨_, rfl⟩
  have hKl : KL.length = M.length := by rw [← hKL, List.length_map]
  replace hKL := Lib.hid hKL
  replace hKl := Lib.hid hKl
  go_loopw [3, 9] (fun v i wr => ∃ k : Nat, k ≤ M.length ∧ i = .int .i64 k ∧ wr.ownsRow w0.heap.size 3 1 v k ((KL.take k).map (Value.int .i64)) ∧ Below w0.heap.size w0 wr) (fun _ i _ => M.length - (intOf i).toNat)
  case atStart => exact ⟨0, Nat.zero_le _, rfl, World.ownsRow_nil _ _ _ _, Below.refl _ _⟩
  case round =>
    obtain ⟨k, hk, rfl, hown, hB⟩ := hrel
    replace hown := Lib.hid hown
    replace hB := Lib.hid hB
    by_cases hlt : k < M.length
    · obtain ⟨b, o, rfl, hS⟩ := h1.out (by omega)
      have hS' := (hS.below hB0.out).below hB.out
      have hjm : k < (M.map qS).length := by rw [List.length_map]; exact hlt
      have l1 := hS'.cx k hjm
      have l2 := hS'.cy k hjm
      have l3 := hS'.cf k hjm
      have l4 := hS'.lt
      rw [List.getElem_map] at l1 l2 l3
      have hz := hB.out.size
      have hkl : k < KL.length := by rw [hKl.out]; exact hlt
      have hst := Lib.hid (take_snocI KL k hkl)
      have hx : Hid (KL[k] = ((codeS (qS M[k]) : Nat) : Int)) := Lib.hid (by subst hKL; rw [List.getElem_map])
      have hlen : (KL.take k).length = k := by rw [List.length_take]; omega
      have oA := qS_ok M[k]
      clear hS hS' h1 kG hd
      generalize M[k] = m at *
      generalize qS m = A at *
      go_wp2_with fail
      refine (bytesOf_c A _ oA).mono ?_; rintro e w1 ⟨rfl, hb1⟩
      go_wp2_with fail
      refine (lcodeS_c A _).mono ?_; rintro e w2 ⟨rfl, hb2⟩
      have hown2 := Lib.hid (own_below (own_below (hown.out.alloc _) hb1) hb2)
      have hB2 := Lib.hid (below_seq (below_seq (balloc hB.out _) hb1) hb2)
      have hz2 := hB2.out.size
      clear l1 l2 l3 l4 hb1 hb2
      generalize ((codeS A : Nat) : Int) = c at *
      go_wp2_with (first | (at_builtin; refine wpl_append_int rfl _ _ _ rfl (by kernel_rfl) w0.heap.size _ (KL.take k) k rfl (hown2.out.alloc _) hlen (by omega) (by simp only [World.size_alloc]; omega) w2.heap.size c rfl (by go_simp) ?_; intro v1 w7 hown' hgrow hbel hloc; replace hown' := Lib.hid hown'; replace hbel := Lib.hid (hbel w0 (balloc hB2.out _)); clear hgrow hloc) | fail)
      go_wp2
      go_roundw
      case rel => exact ⟨k + 1, by omega, by go_num, by rw [hst.out, hx.out]; exact hown'.out, hbel.out⟩
      case measure => simp [intOf]; omega
    · obtain rfl : k = M.length := by omega
      have htk : KL.take M.length = KL := List.take_of_length_le (by have := hKl.out; omega)
      rw [htk] at hown
      obtain ⟨ac, cc, rfl⟩ := own_slB hown.out
      have hI2 := own_ints hown.out hKl.out.symm
      have hKs : KL = ((M.map fun m => codeS (qS m)).map fun n : Nat => (n : Int)) := by rw [← hKL.out, List.map_map]; rfl
      rw [hKs] at hI2
      have hKb : ∀ n ∈ (M.map fun m => codeS (qS m)), n < 1000000 := fun n hn => by
        rw [List.mem_map] at hn
        obtain ⟨m, -, rfl⟩ := hn
        have := codeS_lt (qS_ok m); omega
      have hKz : (numsB (M.length :: (M.map fun m => codeS (qS m)))).length ≤ 91 := by
        have := numsB_len (M.length :: (M.map fun m => codeS (qS m))) (fun m hm => by
          rcases List.mem_cons.1 hm with h | h
          · omega
          · exact hKb m h)
        simp only [List.length_cons, List.length_map] at this
        omega
      have kK := Lib.hid (fun (w1 : World) (hb : Below wr.heap.size wr w1) => lnum_c (M.map fun m => codeS (qS m)) (.slice ac M.length cc) w1 (by rw [List.length_map]; omega) hKb (hI2.below hb) (((hT'.out.below hB0.out).below hB.out).below hb))
      rw [List.length_map] at kK
      obtain ⟨S1, hS1⟩ : ∃ S1, bS (numsB (n :: gl)) = S1 := ⟨_, rfl⟩
      obtain ⟨S2, hS2⟩ : ∃ S2, bS (numsB (M.length :: (M.map fun m => codeS (qS m)))) = S2 := ⟨_, rfl⟩
      have zS1 : S1.size ≤ 7007 := by rw [← hS1, bS_size]; rw [hn.out] at hgz; exact hgz
      have zS2 : S2.size ≤ 91 := by rw [← hS2, bS_size]; exact hKz
      have kN : Hid (∀ w', Below wr.heap.size wr w' → ∀ v S, (v = .slice a0 n c0 ∧ S = S1) ∨ (v = .slice ac M.length cc ∧ S = S2) → Calls Tryz.prog 97 #[v] w' fun e w'' => e = .returned (.string S) ∧ Below w'.heap.size w' w'') := Lib.hid fun w' hb v S h => by
        rcases h with ⟨rfl, rfl⟩ | ⟨rfl, rfl⟩
        · rw [← hS1]; exact kG.out w' (below_seq (below_seq hB0.out hB.out) hb)
        · rw [← hS2]; exact kK.out w' hb
      have hTr := Lib.hid ((hT'.out.below hB0.out).below hB.out)
      have hrl := codeS_lt oR
      have hRc : Hid (codeS RS = codeS RS) := Lib.hid rfl
      obtain ⟨rc, hrc⟩ : ∃ rc, codeS RS = rc := ⟨_, rfl⟩
      have kC := Lib.hid (fun (w1 : World) => lcodeS_c RS w1)
      rw [hrc] at kC hrl
      have hc9 : rc < 1000000000 := by omega
      have hs9 : s < 1000000000 := by omega
      have zD1 : (bS (Lib.decDigits rc)).size ≤ 6 := by rw [bS_size]; exact dec_len _ (by omega)
      have zD2 : (bS (Lib.decDigits s)).size ≤ 6 := by rw [bS_size]; exact dec_len _ (by omega)
      have n1 : ¬ (9223372036854775807 < S1.size + S2.size) := by omega
      have n2 : ¬ (9223372036854775807 < S1.size + S2.size + (bS (Lib.decDigits rc)).size) := by omega
      have n3 : ¬ (9223372036854775807 < S1.size + S2.size + (bS (Lib.decDigits rc)).size + 1) := by omega
      have n4 : ¬ (9223372036854775807 < S1.size + S2.size + (bS (Lib.decDigits rc)).size + 1 + (bS (Lib.decDigits s)).size) := by omega
      have n5 : ¬ (9223372036854775807 < S1.size + S2.size + (bS (Lib.decDigits rc)).size + 1 + (bS (Lib.decDigits s)).size + 1) := by omega
      clear hKz hKs hI2 hKb zS1 zS2 zD1 zD2 hgz htk hRc
      replace hS1 := Lib.hid hS1
      replace hS2 := Lib.hid hS2
      replace hrc := Lib.hid hrc
      obtain ⟨e0, e2, e3, e4, e5, el⟩ := hd.out _ hB.out
      go_wp2_with fail
      refine wp_region_grow Tryz.mixed (by kernel_rfl) ?_
      repeat (quiet_step (first | (go_at_call 97; exact grow_of (kN.out _ (Grew.h _) _ _ (by first | exact .inl ⟨rfl, rfl⟩ | exact .inr ⟨rfl, rfl⟩))) | (go_at_call 96; exact grow_of (bytesOf_c RS _ oR)) | (go_at_call 95; exact grow_of (kC.out _)) | (go_at_call 98; exact grow_of (itoa_n _ (by first | exact hc9 | exact hs9) _ (hTr.out.below (Grew.h _))))))
      refine wpQuiet_nil ?_
      intro _ hw'
      obtain ⟨y, rfl⟩ := hw'
      have hBy := below_seq (below_seq hB0.out hB.out) y.h
      go_wp2
      go_ret
      refine ⟨ret_string ?_, hBy⟩
      show S1 ++ S2 ++ bS _ ++ bS [32] ++ bS _ ++ bS [10] = _
      rw [← hS1.out, ← hS2.out, ← hrc.out]
      simp only [bS_app]
      unfold recD recB
      rw [hn.out, List.length_map]
end Go.Proofs.YtjjmelhhalomaaaGreatDoor
namespace Go.Proofs.YtjjmelhhalomaaaGreatDoor
open Go.RowKit
set_option maxRecDepth 100000
set_option linter.unusedVariables false
set_option linter.unusedSimpArgs false
attribute [local go_sem ↓] Go.wp_at_zero Go.wp_at_succ
/-- Numbers with a blank between. -/
def joinN (l : List Nat) : List UInt8 := Lib.join (l.map Lib.decDigits) [32]
def strN (n : Nat) : Value := .string (bS (Lib.decDigits n))
theorem lens_dec : ∀ l : List Nat, (∀ n ∈ l, n < 1000000) → Lib.lens (l.map Lib.decDigits) ≤ 6 * l.length
  | [], _ => by simp [Lib.lens]
  | n :: l, h => by
    have h1 := lens_dec l (fun m hm => h m (List.mem_cons_of_mem _ hm))
    have h2 := dec_len n (h n List.mem_cons_self)
    simp only [List.map_cons, List.length_cons, Lib.lens] at h1 ⊢
    simp at h1 ⊢
    omega
theorem joinN_len (l : List Nat) (h : ∀ n ∈ l, n < 1000000) : (joinN l).length ≤ 7 * l.length := by
  cases l with
  | nil => simp [joinN, Lib.join_nil]
  | cons n l =>
    have h1 := lens_dec (n :: l) h
    unfold joinN
    rw [List.map_cons] at h1 ⊢
    rw [Lib.join_length]
    simp only [List.length_cons, List.length_map, List.length_nil] at h1 ⊢
    omega
theorem info_strN : (Tryz.prog.info? 9).map (fun i => (i.zero, i.size, i.bytes)) = some (some (.string ⟨#[]⟩), 1, 16) := by kernel_rfl
theorem wpl_append_strN {w : World} {ops : Array Oper} {rest : List Oper} {o : Oper} {a : Act} {Q : Exit → Act → World → Prop} (hgd : o.guard = none) (s x : Operand) (t : TypeId)
    (ho : o.op = .call { callee := .builtin .append, args := #[s, x], argTypes := #[t, t] }) (ht : Tryz.prog.underlying t = some (.slice 9)) (B : Nat) (v : Value) (l : List Nat) (n : Nat) (hs : a.eval s = v)
    (hown : w.ownsRow B 9 1 v n (l.map strN)) (hn : l.length = n) (hl : n ≤ 1000000) (hB : B ≤ w.heap.size) (g : Nat) (c : Nat) (hx : a.eval x = .slice (some ⟨g, 0, none⟩) 1 1)
    (h0 : w.cell? ⟨g, 0, none⟩ = some (strN c))
    (h : ∀ v' w', w'.ownsRow B 9 1 v' (n + 1) ((l ++ [c]).map strN) → (∀ a, Below B a w → Below B a w') → wpList Tryz.prog ops Q rest (a.put o.dst v') w') :
    wpList Tryz.prog ops Q (o :: rest) a w := by
  obtain ⟨i0, hi, hz0, hz1, hz2⟩ := info_parts info_strN
  refine wpList_append_own_at _ hgd s x _ ho B _ i0 _ 1 16 ht hi hz0 hz1 hz2 rfl (by decide) v n _ hs hown ⟨g, 0, none⟩ 1 1 [strN c] hx rfl ?_ ?_ (by unfold maxLen; omega) (by omega) hB ?_
  · intro j u hj
    have e : ∀ k, (⟨g, 0, none⟩ : Addr).add k = ⟨g, k, none⟩ := fun k => by rw [add_none, Nat.zero_add]
    rw [e]
    match j, hj with
    | 0, hj => cases hj; exact h0
  · intro u hu
    simp only [List.mem_cons, List.not_mem_nil, or_false] at hu
    subst hu; rfl
  · intro v' w' h3 h4 _ h6
    rw [show l.map strN ++ [strN c] = (l ++ [c]).map strN by simp] at h3
    exact h v' w' h3 (fun a hb => Below.grown hb h4 hB (fun k hk => (hown.lt k hk).1))
set_option maxHeartbeats 4000000 in
theorem words_c (l : List Nat) (v : Value) (w : World) (hl : l.length ≤ 1000) (hb : ∀ n ∈ l, n < 1000000) (hs : IntSl w v (l.map fun n : Nat => (n : Int))) (hT : TenAt w) :
    Calls Tryz.prog 141 #[v] w fun e w' => e = .returned (.string (bS (joinN l))) ∧ Below w.heap.size w w' := by
  obtain ⟨a, cap, rfl, hsl⟩ := hs
  rw [List.length_map] at hsl ⊢
  have hjl := joinN_len l hb
  replace hsl := Lib.hid hsl
  replace hb := Lib.hid hb
  have hT' := Lib.hid hT
  clear hT
  go_enter Tryz.func141, Tryz.ntmps141
  go_wp2
  go_loopw [3, 8] (fun s i wr => ∃ n : Nat, n ≤ l.length ∧ i = .int .i64 n ∧ wr.ownsRow w.heap.size 9 1 s n ((l.take n).map strN) ∧ Below w.heap.size w wr) (fun _ i _ => l.length - (intOf i).toNat)
  case atStart => exact ⟨0, Nat.zero_le _, rfl, World.ownsRow_nil _ _ _ _, Below.refl _ _⟩
  case round =>
    obtain ⟨n, hn, rfl, hown, hB⟩ := hrel
    obtain ⟨ao, co, rfl⟩ := own_slB hown
    replace hown := Lib.hid hown
    replace hB := Lib.hid hB
    by_cases hlt : n < l.length
    · obtain ⟨b, o, rfl, hI⟩ := hsl.out (by omega)
      have hI6 := hI.below hB.out
      have hjm : n < (l.map fun n : Nat => (n : Int)).length := by rw [List.length_map]; exact hlt
      have l1 := hI6.c n hjm
      have l2 := hI6.lt
      rw [List.getElem_map] at l1
      have hx := hb.out _ (List.getElem_mem hlt)
      have hsn : Hid (l.take (n + 1) = l.take n ++ [l[n]]) := Lib.hid (List.take_succ_eq_append_getElem hlt)
      have htl : (l.take n).length = n := by rw [List.length_take]; omega
      generalize l[n] = x at *
      generalize l.take n = S at *
      replace htl := Lib.hid htl
      clear hI hI6 hsl hb
      go_wp2_with fail
      refine (itoa_n x (by omega) _ (hT'.out.below hB.out)).mono ?_; rintro e w2 ⟨rfl, hb2⟩
      have hB2 := Lib.hid (below_seq hB.out hb2)
      have hown2 := Lib.hid (own_below hown.out hb2)
      have hz2 := hB2.out.size
      clear l1 l2 hb2
      go_wp2_with (first | (at_builtin; refine wpl_append_strN rfl _ _ _ rfl (by kernel_rfl) w.heap.size _ S n rfl (hown2.out.alloc _) htl.out (by omega) (by simp only [World.size_alloc]; omega) w2.heap.size x rfl (by unfold strN; go_simp) ?_; intro v' w4 hown' hbel; obtain ⟨av, cv, rfl⟩ := own_slB hown'; replace hown' := Lib.hid hown'; have hB4 := Lib.hid (hbel w (balloc hB2.out _)); clear hbel) | fail)
      go_roundw
      case rel => exact ⟨n + 1, by omega, by go_num, by rw [hsn.out]; exact hown'.out, hB4.out⟩
      case measure => simp [intOf]; omega
    · obtain rfl : n = l.length := by omega
      rw [List.take_length] at hown
      cases l with
      | nil =>
        clear hown hsl hb
        go_wp2_with fail
        refine (Tryz.strings_Join_none _ _ _ _).mono ?_; rintro e w' ⟨rfl, rfl⟩
        go_wp2
        go_ret
        exact ⟨rfl, hB.out⟩
      | cons x l =>
        obtain ⟨g, c, cur, hv, -, -, hnc, -, -, -⟩ : ∃ g c cur, Value.slice ao (x :: l).length co = .slice (some ⟨g, 0, none⟩) (x :: l).length c ∧ w.heap.size ≤ g ∧ wr.heap[g]? = some (.cells cur 9 (0, 0)) ∧ (x :: l).length ≤ c ∧ c ≤ maxLen ∧ cur.size = c * 1 ∧ cur.toList.take ((x :: l).length * 1) = (x :: l).map strN := by
          rcases hown.out.2 with ⟨-, h0⟩ | h
          · simp at h0
          · exact h
        simp only [Value.slice.injEq, true_and] at hv
        obtain ⟨rfl, rfl⟩ := hv
        have hcell := hown.out.cells (g := g) rfl
        have hlt2 := (hown.out.lt g rfl).2
        have e8 : ((x :: l).map fun n => bS (Lib.decDigits n)).map (·.data.toList) = (x :: l).map Lib.decDigits := by
          rw [List.map_map]; exact List.map_congr_left fun n _ => bS_list _
        have hJ := Lib.hid (Tryz.strings_Join g 0 co ((x :: l).map fun n => bS (Lib.decDigits n)) ⟨#[32]⟩ wr (fun j y hy => by
          rw [List.getElem?_map] at hy
          obtain ⟨m, hm, rfl⟩ := Option.map_eq_some_iff.1 hy
          have := hcell j (strN m) (by rw [List.getElem?_map, hm]; rfl)
          rw [add_none, Nat.zero_add] at this
          rw [Nat.zero_add]
          exact this) hlt2 (by rw [List.length_map]; omega) (by rw [List.length_map]; exact hnc) (by rw [e8]; show (joinN (x :: l)).length ≤ _; omega))
        rw [e8, List.length_map] at hJ
        clear hown hsl hb hcell e8
        go_wp2_with fail
        refine hJ.out.mono ?_; rintro e w' ⟨rfl, hb5⟩
        have hB5 := Lib.hid (below_seq hB.out hb5)
        clear hb5 hJ
        go_wp2
        go_ret
        exact ⟨rfl, hB5.out⟩
end Go.Proofs.YtjjmelhhalomaaaGreatDoor
namespace Go.Proofs.YtjjmelhhalomaaaGreatDoor
open Go.RowKit
set_option maxRecDepth 100000
set_option linter.unusedVariables false
set_option linter.unusedSimpArgs false
attribute [local go_sem ↓] Go.wp_at_zero Go.wp_at_succ
set_option maxHeartbeats 1000000 in
theorem lspot_far (w : World) (hF : FarAt w) : Calls Tryz.prog 131 #[.int .i64 0] w fun e w' => e = .returned (.tuple #[spV sFar, .nilIface]) ∧ Below w.heap.size w w' := by
  go_enter Tryz.func131, Tryz.ntmps131
  go_wp2_with fail
  have hz := SpAt.fresh w 0 0 false 28
  have hb0 := below_alloc w (.cells #[.int .i64 0, .int .i64 0, .bool false] 28)
  refine (unpack_far _ (hF.below hb0)).mono ?_; rintro e w1 ⟨rfl, hb1⟩
  obtain ⟨c0, c1, c2, f0, f1, f2, cl⟩ := hz.below hb1
  have hB := below_seq hb0 hb1
  clear hb0 hb1 hz
  go_wp2
  have kk := set3_cell (w := w1) (x := .int .i64 sFar.x) (y := .int .i64 sFar.y) (z := .bool sFar.far) c0 c1 c2
  refine bodyPost_ret (v := .tuple #[spV sFar, .nilIface]) (by simp [results, Tryz.results131, go_sem, kk.1, kk.2.1, kk.2.2]) rfl ⟨rfl, set3_below hB (Nat.le_refl _)⟩
set_option maxHeartbeats 1000000 in
theorem lspot_near (s : Sp) (o : Ok s) (h : s.far = false) (w : World) (hF : FarAt w) : Calls Tryz.prog 131 #[.int .i64 ((codeS s : Nat) : Int)] w fun e w' => e = .returned (.tuple #[spV s, .nilIface]) ∧ Below w.heap.size w w' := by
  have x0 := o.x0; have x1 := o.x1
  have hc := codeS_near h x0 x1
  obtain ⟨g1, g2⟩ := sgS_bd s
  generalize ((codeS s : Nat) : Int) = n at *
  have hn : (n == 0) = false := by rw [beq_eq_false_iff_ne]; omega
  have n0 : 0 ≤ n := by omega
  have n1 : n < 200000 := by omega
  have es : strOfNums [n / 65536, n / 256 % 256, n % 256] = sBytes s := by
    rw [sBytes_near h, show n / 65536 = sgS s by omega, show n / 256 % 256 = s.x / 256 by omega, show n % 256 = s.x % 256 by omega]
  have hcv := conv3 ((w.alloc (.cells #[.int .i64 0, .int .i64 0, .bool false] 28)).alloc (.cells #[.int .u8 (n / 65536), .int .u8 (n / 256 % 256), .int .u8 (n % 256)] 5)) (w.heap.size + 1) (n / 65536) (n / 256 % 256) (n % 256) (by go_simp) (by go_simp) (by go_simp)
  rw [es] at hcv
  have hz2 : (sBytes s).size ≤ 140737488351232 := Nat.le_trans (sBytes_size s) (by decide)
  have hun : unV (unpackR (sBytes s).data.toList) = .tuple #[spV s, .nilIface] := by rw [unpack_sBytes o]; rfl
  replace hc := Lib.hid hc
  replace es := Lib.hid es
  replace h := Lib.hid h
  clear g1 g2
  go_enter Tryz.func131, Tryz.ntmps131
  go_wp2_with fail
  have hz := (SpAt.fresh w 0 0 false 28).alloc (.cells #[.int .u8 (n / 65536), .int .u8 (n / 256 % 256), .int .u8 (n % 256)] 5)
  have hb0 := balloc (below_alloc w (.cells #[.int .i64 0, .int .i64 0, .bool false] 28)) (.cells #[.int .u8 (n / 65536), .int .u8 (n / 256 % 256), .int .u8 (n % 256)] 5)
  refine (unpack_c (sBytes s) _ (hF.below hb0) hz2).mono ?_; rintro e w1 ⟨rfl, hb1⟩
  rw [hun]
  obtain ⟨c0, c1, c2, f0, f1, f2, cl⟩ := hz.below hb1
  have hB := below_seq hb0 hb1
  clear hb0 hb1 hz hcv hun
  go_wp2
  have kk := set3_cell (w := w1) (x := .int .i64 s.x) (y := .int .i64 s.y) (z := .bool s.far) c0 c1 c2
  refine bodyPost_ret (v := .tuple #[spV s, .nilIface]) (by simp [results, Tryz.results131, go_sem, kk.1, kk.2.1, kk.2.2]) rfl ⟨rfl, set3_below hB (Nat.le_refl _)⟩
theorem lspot_c (s : Sp) (o : Ok s) (w : World) (hF : FarAt w) : Calls Tryz.prog 131 #[.int .i64 ((codeS s : Nat) : Int)] w fun e w' => e = .returned (.tuple #[spV s, .nilIface]) ∧ Below w.heap.size w w' := by
  cases hf : s.far
  · exact lspot_near s o hf w hF
  · have e : s = sFar := Sp.ext' (o.far hf).1 (o.far hf).2 hf
    rw [codeS_far hf, e]
    exact lspot_far w hF
/-- The words that lie from a place on. -/
structure WdsAt (w : World) (b off : Nat) (ws : List Nat) : Prop where
  lt : b < w.heap.size
  c : ∀ i (h : i < ws.length), w.cell? ⟨b, off + i, none⟩ = some (.string (bS (Lib.decDigits ws[i])))
/-- A reader of words: its block, and the words that are left; all below B. -/
structure RdAt (w : World) (B rb : Nat) (ws : List Nat) : Prop where
  lt : rb < w.heap.size
  rB : rb < B
  f0 : w.frozen? ⟨rb, 0, none⟩ = false
  c0 : ∃ a, w.cell? ⟨rb, 0, none⟩ = some (.slice a ws.length ws.length) ∧ (0 < ws.length → ∃ b off, a = some ⟨b, off, none⟩ ∧ WdsAt w b off ws ∧ b ≠ rb ∧ b < B)
theorem RdAt.below {w w' : World} {B rb : Nat} {ws : List Nat} (h : RdAt w B rb ws) (hb : Below B w w') : RdAt w' B rb ws := by
  obtain ⟨lt, rB, f0, a, c0, hw⟩ := h
  refine ⟨Nat.lt_of_lt_of_le lt hb.size, rB, (hb.frozen (p := ⟨rb, 0, none⟩) rB).trans f0, a, (hb.cell (p := ⟨rb, 0, none⟩) rB).trans c0, fun h0 => ?_⟩
  obtain ⟨b, off, e, hs, hne, hB⟩ := hw h0
  exact ⟨b, off, e, ⟨Nat.lt_of_lt_of_le hs.lt hb.size, fun i hi => (hb.cell (p := ⟨b, off + i, none⟩) hB).trans (hs.c i hi)⟩, hne, hB⟩
theorem atoi_n (x : Nat) (hx : x < 1000000000) (w : World) : Calls Tryz.prog 151 #[.string (bS (Lib.decDigits x))] w fun e w' => e = .returned (.tuple #[.int .i64 (x : Int), .nilIface]) ∧ Below w.heap.size w w' := by
  refine (Tryz.strconv_Atoi_ok (bS (Lib.decDigits x)) (by rw [bS_size, Lib.decDigits_length]; have := nDigits_le x 8 (by omega); omega) (x : Int) (by rw [bS_list]; exact atoiAll_dec x (by omega)) w).mono ?_
  rintro e w' ⟨rfl, rfl | ⟨t, rfl⟩⟩
  · exact ⟨rfl, Below.refl _ _⟩
  · exact ⟨rfl, rfl, rfl, rfl, by rw [Lib.bytesWorld_size]; omega, fun k hk => Lib.bytesWorld_at_old w _ t k hk⟩
set_option maxHeartbeats 4000000 in
theorem lnumber_c (B rb x : Nat) (ws : List Nat) (w : World) (hR : RdAt w B rb (x :: ws)) (hx : x < 1000000000) (hl : ws.length ≤ 1000000) :
    Calls Tryz.prog 132 #[.pointer (some ⟨rb, 0, none⟩)] w fun e w' => e = .returned (.tuple #[.int .i64 (x : Int), .nilIface]) ∧ RdAt w' B rb ws ∧ But (fun k => k = rb) w w' := by
  obtain ⟨lt, rB, f0, a, c0, hw⟩ := hR
  obtain ⟨b, off, rfl, hs, hne, hB⟩ := hw (by simp)
  have l1 := hs.c 0 (by simp)
  have l2 := hs.lt
  have l3 : ∀ i (h : i < ws.length), w.cell? ⟨b, off + 1 + i, none⟩ = some (.string (bS (Lib.decDigits ws[i]))) := fun i h => by
    have := hs.c (i + 1) (by simpa using h)
    rw [List.getElem_cons_succ] at this
    rw [Nat.add_assoc, Nat.add_comm 1 i]; exact this
  rw [List.getElem_cons_zero, Nat.add_zero] at l1
  rw [List.length_cons] at c0
  obtain ⟨m, hm⟩ : ∃ m, ws.length = m := ⟨_, rfl⟩
  rw [hm] at c0
  replace hm := Lib.hid hm
  replace l3 := Lib.hid l3
  clear hs hw
  go_enter Tryz.func132, Tryz.ntmps132
  go_wp2_with fail
  refine (atoi_n x hx _).mono ?_; rintro e w1 ⟨rfl, hb1⟩
  have c1 := ((bcell hb1).1 _ 0 lt).trans c0
  have f1 := ((bcell hb1).2 _ 0 lt).trans f0
  have lt1 := Nat.lt_of_lt_of_le lt hb1.size
  replace hb1 := Lib.hid hb1
  clear c0 f0 l1
  have hbut : But (fun k => k = rb) w (w1.setCell ⟨rb, 0, none⟩ (.slice (some ⟨b, if m = 0 then off else off + 1, none⟩) m m)) := (But.of_below hb1.out).trans (But.setCell (S := fun k => k = rb) (p := ⟨rb, 0, none⟩) rfl _)
  have hfin : RdAt (w1.setCell ⟨rb, 0, none⟩ (.slice (some ⟨b, if m = 0 then off else off + 1, none⟩) m m)) B rb ws := by
    refine ⟨by simpa using lt1, rB, by simpa using f1, some ⟨b, if m = 0 then off else off + 1, none⟩, ?_, fun h0 => ⟨b, off + 1, ?_, ⟨?_, fun i hi => ?_⟩, hne, hB⟩⟩
    · rw [hm.out]; exact World.cell?_setCell_same _ _ _ c1
    · rw [if_neg (by have := hm.out; omega)]
    · have := hb1.out.size; simp; omega
    · rw [World.cell?_setCell_other (h := by simp [hne])]
      exact ((bcell hb1.out).1 _ _ l2).trans (l3.out i hi)
  replace hbut := Lib.hid hbut
  replace hfin := Lib.hid hfin
  clear l3
  cases m with
  | zero =>
    rw [if_pos rfl] at hbut hfin
    go_wp2
    go_ret2
    exact ⟨rfl, hfin.out, hbut.out⟩
  | succ m =>
    rw [if_neg (by omega)] at hbut hfin
    go_wp2
    go_ret2
    exact ⟨rfl, hfin.out, hbut.out⟩
theorem below_alloc' (w : World) {B : Nat} (o : Obj) (h : B ≤ w.heap.size) : Below B w (w.alloc o) := (Below.refl B w).alloc h o
theorem But.after {S : Nat → Prop} {a b c : World} (h : But S a b) (k : Below a.heap.size b c) : But S a c :=
  ⟨k.os.trans h.os, k.tape.trans h.tape, k.output.trans h.output, Nat.le_trans h.size k.size, fun i hi hs => (k.block i hi).trans (h.block i hi hs)⟩
theorem own_but {w w' : World} {B e size n : Nat} {v : Value} {xs : List Value} {S : Nat → Prop} (h : w.ownsRow B e size v n xs) (hb : But S w w') (hs : ∀ k, v.ownBlock = some k → ¬ S k) : w'.ownsRow B e size v n xs :=
  own_keep h fun k hk => hb.block k (h.lt k hk).2 (hs k hk)
theorem drop_consN (l ws : List Nat) (k : Nat) (h : k < l.length) : l.drop k ++ ws = l[k] :: (l.drop (k + 1) ++ ws) := by rw [List.drop_eq_getElem_cons h, List.cons_append]
set_option maxHeartbeats 4000000 in
theorem lsome_c (B rb : Nat) (l ws : List Nat) (w : World) (hR : RdAt w B rb (l.length :: (l ++ ws))) (hBw : B ≤ w.heap.size) (hl : l.length ≤ 1000) (hx : ∀ n ∈ l, n < 1000000000) (hw : ws.length ≤ 10000) :
    Calls Tryz.prog 130 #[.pointer (some ⟨rb, 0, none⟩)] w fun e w' => ∃ v, e = .returned (.tuple #[v, .nilIface]) ∧ w'.ownsRow w.heap.size 3 1 v l.length ((l.map fun n : Nat => (n : Int)).map (Value.int .i64)) ∧ RdAt w' B rb ws ∧ But (fun k => k = rb) w w' := by
  have hN := lnumber_c B rb l.length (l ++ ws) w hR (by omega) (by rw [List.length_append]; omega)
  obtain ⟨LI, hLI⟩ : ∃ LI : List Int, (l.map fun n : Nat => (n : Int)) = LI := ⟨_, rfl⟩
  have hLl : LI.length = l.length := by rw [← hLI, List.length_map]
  rw [hLI]
  have hrB := hR.rB
  replace hLI := Lib.hid hLI
  replace hLl := Lib.hid hLl
  replace hN := Lib.hid hN
  replace hx := Lib.hid hx
  clear hR
  go_enter Tryz.func130, Tryz.ntmps130
  go_wp2_with fail
  refine hN.out.mono ?_; rintro e w1 ⟨rfl, hR1, hb1⟩
  replace hR1 := Lib.hid hR1
  replace hb1 := Lib.hid hb1
  clear hN
  go_wp2
  go_loopw [6, 18] (fun v i wr => ∃ k : Nat, k ≤ l.length ∧ i = .int .i64 k ∧ wr.ownsRow w.heap.size 3 1 v k ((LI.take k).map (Value.int .i64)) ∧ RdAt wr B rb (l.drop k ++ ws) ∧ But (fun k => k = rb) w wr) (fun _ i _ => l.length - (intOf i).toNat)
  case atStart => exact ⟨0, Nat.zero_le _, rfl, World.ownsRow_nil _ _ _ _, hR1.out, hb1.out⟩
  case round =>
    clear hR1 hb1
    obtain ⟨k, hk, rfl, hown, hR, hb⟩ := hrel
    by_cases hlt : k < l.length
    · rw [drop_consN l ws k hlt] at hR
      have hN := lnumber_c B rb l[k] (l.drop (k + 1) ++ ws) wr hR (hx.out _ (List.getElem_mem hlt)) (by rw [List.length_append, List.length_drop]; omega)
      have hkl : k < LI.length := by rw [hLl.out]; exact hlt
      have hst := Lib.hid (take_snocI LI k hkl)
      have hcx : Hid (LI[k] = ((l[k] : Nat) : Int)) := Lib.hid (by subst hLI; rw [List.getElem_map])
      have hlen : (LI.take k).length = k := by rw [List.length_take]; omega
      have hz := hb.size
      replace hN := Lib.hid hN
      replace hown := Lib.hid hown
      replace hb := Lib.hid hb
      clear hR
      generalize l[k] = c at *
      go_wp2_with fail
      refine hN.out.mono ?_; rintro e w2 ⟨rfl, hR2, hb2⟩
      have hown2 := Lib.hid (own_but hown.out hb2 (fun j hj e => by have := (hown.out.lt j hj).1; omega))
      have hB2 := Lib.hid (hb.out.trans hb2)
      have hz2 := hB2.out.size
      replace hR2 := Lib.hid hR2
      clear hb2 hN
      go_wp2_with (first | (at_builtin; refine wpl_append_int rfl _ _ _ rfl (by kernel_rfl) w.heap.size _ (LI.take k) k rfl (hown2.out.alloc _) hlen (by omega) (by simp only [World.size_alloc]; omega) w2.heap.size c rfl (by go_simp) ?_; intro v1 w7 hown' hgrow hbel hloc; replace hown' := Lib.hid hown'; have hb7 := Lib.hid (hbel w2 (below_alloc' w2 _ (by omega))); clear hgrow hloc hbel) | fail)
      go_wp2
      go_roundw
      case rel => exact ⟨k + 1, by omega, by go_num, by rw [hst.out, hcx.out]; exact hown'.out, hR2.out.below (hb7.out.mono hBw), hB2.out.after hb7.out⟩
      case measure => simp [intOf]; omega
    · obtain rfl : k = l.length := by omega
      have e1 : LI.take l.length = LI := List.take_of_length_le (by have := hLl.out; omega)
      have e2 : l.drop l.length ++ ws = ws := by rw [List.drop_length, List.nil_append]
      rw [e1] at hown
      rw [e2] at hR
      clear e1 e2
      replace hown := Lib.hid hown
      replace hR := Lib.hid hR
      replace hb := Lib.hid hb
      obtain ⟨av, cv, rfl⟩ := own_slB hown.out
      go_wp2
      go_ret2
      exact ⟨_, rfl, hown.out, hR.out, hb.out⟩
end Go.Proofs.YtjjmelhhalomaaaGreatDoor
namespace Go.Proofs.YtjjmelhhalomaaaGreatDoor
open Go.RowKit
set_option maxRecDepth 100000
set_option linter.unusedVariables false
set_option linter.unusedSimpArgs false
attribute [local go_sem ↓] Go.wp_at_zero Go.wp_at_succ
/-- The library's two errors of numbers. -/
def SynAt (w : World) : Prop := (∃ te pe, w.cell? ⟨8, 0, none⟩ = some (.iface te pe)) ∧ 8 < w.heap.size
def RngAt (w : World) : Prop := (∃ te pe, w.cell? ⟨9, 0, none⟩ = some (.iface te pe)) ∧ 9 < w.heap.size
theorem SynAt.below {w w' : World} (h : SynAt w) (hb : Below w.heap.size w w') : SynAt w' := by
  obtain ⟨⟨te, pe, hc⟩, hl⟩ := h
  exact ⟨⟨te, pe, ((bcell hb).1 _ _ hl).trans hc⟩, Nat.lt_of_lt_of_le hl hb.size⟩
theorem RngAt.below {w w' : World} (h : RngAt w) (hb : Below w.heap.size w w') : RngAt w' := by
  obtain ⟨⟨te, pe, hc⟩, hl⟩ := h
  exact ⟨⟨te, pe, ((bcell hb).1 _ _ hl).trans hc⟩, Nat.lt_of_lt_of_le hl hb.size⟩
/-- The number that a word is, if it is one. -/
def numF (s : List UInt8) : Option Nat := match Lib.atoiAll s with
  | .ok v => if 0 ≤ v ∧ s.length ≤ 4 ∧ Lib.decDigits v.toNat = s then some v.toNat else none
  | _ => none
theorem nDigits_four (u : Nat) (h : Lib.nDigits u ≤ 4) : u < 10000 := by
  rcases Nat.lt_or_ge u 10000 with h1 | h1
  · exact h1
  · rw [Lib.nDigits_big (by omega), Lib.nDigits_big (by omega), Lib.nDigits_big (by omega), Lib.nDigits_big (by omega)] at h
    have := Lib.nDigits_pos (u / 10 / 10 / 10 / 10)
    omega
theorem numF_some {s : List UInt8} {n : Nat} (h : numF s = some n) : n < 10000 ∧ Lib.decDigits n = s := by
  unfold numF at h
  split at h
  · rename_i v hv
    split at h
    · rename_i hc
      cases h
      refine ⟨nDigits_four _ ?_, hc.2.2⟩
      have h1 := hc.2.1
      rw [← hc.2.2, Lib.decDigits_length] at h1
      exact h1
    · cases h
  · cases h
theorem numF_dec (n : Nat) (h : n < 10000) : numF (Lib.decDigits n) = some n := by
  unfold numF
  rw [atoiAll_dec n (by omega)]
  have h1 : (Lib.decDigits n).length ≤ 4 := by rw [Lib.decDigits_length]; exact nDigits_le n 3 (by omega)
  show (if _ then some _ else none) = _
  rw [if_pos ⟨Int.natCast_nonneg n, h1, by rw [Int.toNat_natCast]⟩, Int.toNat_natCast]
theorem bS_tl (l : List UInt8) : (bS l).toList = l := by rw [ByteArray.toList_eq]; exact bS_list l
theorem itoa_all (n : Nat) (h : n ≤ 9223372036854775807) (w : World) (hT : TenAt w) : Calls Tryz.prog 98 #[.int .i64 (n : Int)] w fun e w' => e = .returned (.string (bS (Lib.decDigits n))) ∧ Below w.heap.size w w' := by
  refine (Tryz.strconv_Itoa (n : Int) (by omega) (by omega) w hT).mono ?_
  rintro e w' ⟨rfl, k, os, rfl⟩
  exact ⟨by rw [Lib.itoa_nonneg]; rfl, Lib.below_grow _ _ (Nat.le_refl _) _ _⟩
set_option maxHeartbeats 4000000 in
theorem number_c (s : List UInt8) (w : World) (hl : s.length ≤ 3000) (hT : TenAt w) (hS : SynAt w) (hR : RngAt w) :
    Calls Tryz.prog 106 #[.string (bS s)] w fun e w' => ∃ v : Int, e = .returned (.tuple #[.int .i64 v, .bool (numF s).isSome]) ∧ (∀ n, numF s = some n → v = (n : Int)) ∧ Below w.heap.size w w' := by
  have hsz : (bS s).size = s.length := bS_size s
  obtain ⟨NF, hNF⟩ : ∃ NF, numF s = NF := ⟨_, rfl⟩
  rw [hNF]
  unfold numF at hNF
  cases hA : Lib.atoiAll s
  case range =>
    rw [hA] at hNF
    obtain rfl : none = NF := hNF
    obtain ⟨⟨te, pe, hc⟩, hlt⟩ := hR
    have hC := Lib.hid (Tryz.strconv_Atoi_range (bS s) (by rw [hsz]; omega) (by rw [bS_list]; exact hA) _ w hc (.inr ⟨_, _, rfl⟩))
    generalize Lib.atoiSat (bS s).data.toList = V at hC
    clear hA hc hT hS
    go_enter Tryz.func106, Tryz.ntmps106
    go_wp2_with fail
    refine hC.out.mono ?_; rintro e w1 ⟨N, rfl, -, -, hb⟩
    replace hb := Lib.hid hb
    clear hC
    go_wp2
    go_ret2
    exact ⟨_, rfl, fun n h => (by cases h), hb.out⟩
  case ok v =>
    rw [hA] at hNF
    obtain ⟨v0, v1⟩ := Lib.atoiAll_bounds hA
    have hC : Hid (∀ w1, Calls Tryz.prog 151 #[.string (bS s)] w1 fun e w' => e = .returned (.tuple #[.int .i64 v, .nilIface]) ∧ Below w1.heap.size w1 w') := Lib.hid fun w1 => by
      refine (Tryz.strconv_Atoi_ok (bS s) (by rw [hsz]; omega) v (by rw [bS_list]; exact hA) w1).mono ?_
      rintro e w' ⟨rfl, rfl | ⟨t, rfl⟩⟩
      · exact ⟨rfl, Below.refl _ _⟩
      · exact ⟨rfl, rfl, rfl, rfl, by rw [Lib.bytesWorld_size]; omega, fun k hk => Lib.bytesWorld_at_old w1 _ t k hk⟩
    have hT' := Lib.hid hT
    clear hA hT hS hR
    by_cases q1 : 0 ≤ v
    · obtain ⟨n, rfl⟩ : ∃ n : Nat, v = (n : Int) := ⟨v.toNat, by omega⟩
      replace hNF : (if 0 ≤ (n : Int) ∧ s.length ≤ 4 ∧ Lib.decDigits n = s then some n else none) = NF := hNF
      by_cases q2 : s.length ≤ 4
      · have g2 : ((bS s).size : Int) ≤ 4 := by rw [hsz]; omega
        have hI := Lib.hid (fun w1 hT => itoa_all n (by omega) w1 hT)
        have hres : NF = if Lib.decDigits n = s then some n else none := by
          rw [← hNF]
          by_cases h : Lib.decDigits n = s
          · rw [if_pos h, if_pos ⟨q1, q2, h⟩]
          · rw [if_neg h, if_neg (fun k => h k.2.2)]
        replace hres := Lib.hid hres
        clear hNF
        go_enter Tryz.func106, Tryz.ntmps106
        go_wp2_with fail
        refine (hC.out _).mono ?_; rintro e w1 ⟨rfl, hb⟩
        replace hb := Lib.hid hb
        clear hC
        go_wp2_with fail
        refine (hI.out _ (hT'.out.below hb.out)).mono ?_; rintro e w2 ⟨rfl, hb2⟩
        have hB2 := Lib.hid (below_seq hb.out hb2)
        clear hb2 hI
        have hse : ((bS (Lib.decDigits n)).toList == (bS s).toList) = NF.isSome := by
          rw [hres.out, bS_tl, bS_tl]
          by_cases h : Lib.decDigits n = s
          · rw [if_pos h, h]; simp
          · rw [if_neg h]; simpa using h
        go_wp2
        go_ret2
        exact ⟨_, rfl, fun m hm => by
          rw [hres.out] at hm
          split at hm
          · cases hm; rfl
          · exact absurd hm (by simp), hB2.out⟩
      · have g2 : decide (((bS s).size : Int) ≤ 4) = false := by rw [decide_eq_false_iff_not, hsz]; omega
        obtain rfl : none = NF := by rw [← hNF, if_neg (fun k => q2 k.2.1)]
        go_enter Tryz.func106, Tryz.ntmps106
        go_wp2_with fail
        refine (hC.out _).mono ?_; rintro e w1 ⟨rfl, hb⟩
        replace hb := Lib.hid hb
        clear hC hNF
        go_wp2
        go_ret2
        exact ⟨⟨_, rfl⟩, hb.out⟩
    · obtain rfl : none = NF := by rw [← hNF]; exact (if_neg (fun k => q1 k.1)).symm
      have g1 : decide (v ≥ 0) = false := by rw [decide_eq_false_iff_not]; omega
      go_enter Tryz.func106, Tryz.ntmps106
      go_wp2_with fail
      refine (hC.out _).mono ?_; rintro e w1 ⟨rfl, hb⟩
      replace hb := Lib.hid hb
      clear hC hNF
      go_wp2
      go_ret2
      exact ⟨_, rfl, fun n h => (by cases h), hb.out⟩
  · rw [hA] at hNF
    obtain rfl : none = NF := hNF
    obtain ⟨⟨te, pe, hc⟩, hlt⟩ := hS
    have hC := Lib.hid (Tryz.strconv_Atoi_syntax (bS s) (by rw [hsz]; omega) (by rw [bS_list]; exact hA) _ w hc (.inr ⟨_, _, rfl⟩))
    clear hA hc hT hR
    go_enter Tryz.func106, Tryz.ntmps106
    go_wp2_with fail
    refine hC.out.mono ?_; rintro e w1 ⟨N, rfl, -, -, hb⟩
    replace hb := Lib.hid hb
    clear hC
    go_wp2
    go_ret2
    exact ⟨_, rfl, fun n h => (by cases h), hb.out⟩
end Go.Proofs.YtjjmelhhalomaaaGreatDoor
