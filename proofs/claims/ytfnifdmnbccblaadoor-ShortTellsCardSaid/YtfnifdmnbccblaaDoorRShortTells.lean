/- The statement of ShortTells: for every input the law returns true, and the arguments read as they did. (its listed variable reads as laid; the card ties it) -/
import Derived.Test.YtfnifdmnbccblaaDoorWb
import Derived.Test.YtfnifdmnbccblaaDoorWv
import Derived.LaidEql
import Derived.Stop.Asserts
import Derived.RowKitTokens
import Derived.Test.YtfnifdmnbccblaaDoorMShortTells
import Derived.Laws.Entries
import Derived.Deep.DeepCutAuto
import Derived.Deep.CutBlock
import Derived.BigQuiet
import Derived.Test.YtfnifdmnbccblaaDoorRows
import Derived.ProofKit
import Derived.LaidMore
import Derived.OpenShut
import Derived.MakeChecks
import Derived.Deep.Strs
import Derived.Test.YtfnifdmnbccblaaDoorPo
import Derived.LaidHandle
import Derived.SizedLaws
import Derived.Test.YtfnifdmnbccblaaDoorTie
import Derived.Test.YtfnifdmnbccblaaDoorCards
import Derived.SevenTiedAt
namespace Go.Proofs.YtfnifdmnbccblaaDoor
open Go.RowKit Go.Extern.Stop Go.Stop Go.Extern
set_option maxRecDepth 100000
set_option linter.unusedVariables false
set_option linter.unusedSimpArgs false
/-- The variable errors.errorType reads as laid. -/
def ErrAt (w : World) : Prop := w.cell? ⟨2, 0, none⟩ = some (.iface 183 (.agg #[.pointer (some ⟨3, 27, none⟩)])) ∧ 2 < w.heap.size
theorem ErrAt.below {w w' : World} (h : ErrAt w) (hb : Below w.heap.size w w') : ErrAt w' := ⟨((bcell hb).1 _ _ h.2).trans h.1, Nat.lt_of_lt_of_le h.2 hb.size⟩
/-! The model's entries for reflectlite, at this program's types. -/
theorem rl_value (t : Addr) (w : World) : (ReflectliteValue.unpack (.iface 161 (.pointer (some t)))).run Tryd.prog w
    = .ok (.agg #[.pointer (some ⟨3, 161, none⟩), .pointer (some ⟨w.heap.size, 0, none⟩), .int .u64 150]) (w.alloc (.cells #[.pointer (some t)] 161)) := by kernel_rfl
theorem rl_type (a : Addr) (w : World) : (ReflectliteValue.methodAny (ReflectliteValue.valueError "reflectlite.Value.Type" 0) (fun t _ _ _ => ReflectliteType.toType t) #[.agg #[.pointer (some ⟨3, 161, none⟩), .pointer (some a), .int .u64 150]]).run Tryd.prog w
    = .ok (.iface 183 (.agg #[.pointer (some ⟨3, 161, none⟩)])) w := by kernel_rfl
theorem rl_kindm (h : Value) (w : World) : (Go.method 326 183 (.agg #[h]) "Kind").run Tryd.prog w = .ok (166, h) w := by kernel_rfl
theorem rl_kind (w : World) : ((ReflectliteType.abiMethod fun t => Functor.map (fun a : Nat => Value.int IntKind.u8 (a : Int)) (Rtype.kind t)) #[.pointer (some ⟨3, 161, none⟩)]).run Tryd.prog w = .ok (.int .u8 22) w := by kernel_rfl
theorem rl_kinde (w : World) : ((ReflectliteType.abiMethod fun t => Functor.map (fun a : Nat => Value.int IntKind.u8 (a : Int)) (Rtype.kind t)) #[.pointer (some ⟨3, 118, none⟩)]).run Tryd.prog w = .ok (.int .u8 2) w := by kernel_rfl
theorem rl_m (z : Sem Value) (f : TypeId → Addr → Nat → Nat → Sem Value) (v : Value) :
    ReflectliteValue.method z f #[v] = (do match ← ReflectliteValue.parts v with | none => z | some (t, a, fl) => f t a fl (fl % 32)) := rfl
theorem rl_parts (a : Addr) (w : World) : (ReflectliteValue.parts (.agg #[.pointer (some ⟨3, 161, none⟩), .pointer (some a), .int .u64 150])).run Tryd.prog w = .ok (some (161, a, 150)) w := by kernel_rfl
theorem rl_nil (a p : Addr) (W : World) (ha : W.cell? a = some (.pointer (some p))) :
    (ReflectliteValue.method (ReflectliteValue.valueError "reflectlite.Value.IsNil" 0) ReflectliteValue.isNil #[.agg #[.pointer (some ⟨3, 161, none⟩), .pointer (some a), .int .u64 150]]).run Tryd.prog W = .ok (.bool false) W := by
  rw [rl_m]
  simp only [Sem.run_bind, rl_parts, Result.andThen]
  simp [ReflectliteValue.isNil, loadVar, isAgg, underlying, Tryd.underlying161, ha, Result.andThen]
theorem rl_elemm (h : Value) (w : World) : (Go.method 326 183 (.agg #[h]) "Elem").run Tryd.prog w = .ok (177, .agg #[h]) w := by kernel_rfl
theorem rl_implm (h : Value) (w : World) : (Go.method 326 183 (.agg #[h]) "Implements").run Tryd.prog w = .ok (178, .agg #[h]) w := by kernel_rfl
theorem rl_assm (h : Value) (w : World) : (Go.method 326 183 (.agg #[h]) "AssignableTo").run Tryd.prog w = .ok (175, .agg #[h]) w := by kernel_rfl
theorem rl_elem (w : World) : (ReflectliteType.method ReflectliteType.elem #[.agg #[.pointer (some ⟨3, 161, none⟩)]]).run Tryd.prog w = .ok (.iface 183 (.agg #[.pointer (some ⟨3, 118, none⟩)])) w := by kernel_rfl
theorem rl_impl (w : World) : (ReflectliteType.relation "Implements" ReflectliteType.implements_ #[.agg #[.pointer (some ⟨3, 118, none⟩)], .iface 183 (.agg #[.pointer (some ⟨3, 27, none⟩)])]).run Tryd.prog w = .ok (.bool true) w := by kernel_rfl
theorem rl_typeof (v : Value) (w : World) : (ReflectliteType.typeOf #[.iface 118 v]).run Tryd.prog w = .ok (.iface 183 (.agg #[.pointer (some ⟨3, 118, none⟩)])) w := by kernel_rfl
theorem rl_ass (w : World) : (ReflectliteType.relation "AssignableTo" ReflectliteType.assignableTo #[.agg #[.pointer (some ⟨3, 118, none⟩)], .iface 183 (.agg #[.pointer (some ⟨3, 118, none⟩)])]).run Tryd.prog w = .ok (.bool true) w := by kernel_rfl
theorem rl_valuee (k : Int) (w : World) : (ReflectliteValue.unpack (.iface 118 (.int .i64 k))).run Tryd.prog w
    = .ok (.agg #[.pointer (some ⟨3, 118, none⟩), .pointer (some ⟨w.heap.size, 0, none⟩), .int .u64 130]) (w.alloc (.cells #[.int .i64 k] 118)) := by kernel_rfl
theorem rl_elemof (w : World) : (Rtype.elem? 161).run Tryd.prog w = .ok (some 118) w := by kernel_rfl
theorem rl_mk (p : Addr) (w : World) : (ReflectliteValue.mk 118 p ReflectliteValue.flagAddr).run Tryd.prog w = .ok (.agg #[.pointer (some ⟨3, 118, none⟩), .pointer (some p), .int .u64 386]) w := by kernel_rfl
theorem rl_elemv (a p : Addr) (W : World) (ha : W.cell? a = some (.pointer (some p))) :
    (ReflectliteValue.method (ReflectliteValue.valueError "reflectlite.Value.Elem" 0) ReflectliteValue.elem #[.agg #[.pointer (some ⟨3, 161, none⟩), .pointer (some a), .int .u64 150]]).run Tryd.prog W
      = .ok (.agg #[.pointer (some ⟨3, 118, none⟩), .pointer (some p), .int .u64 386]) W := by
  rw [rl_m]
  simp only [Sem.run_bind, rl_parts, Result.andThen]
  simp [ReflectliteValue.elem, loadVar, isAgg, underlying, Tryd.underlying161, ha, Result.andThen, rl_elemof, rl_mk]
theorem rl_s (v x : Value) : ReflectliteValue.set #[v, x] = (do
    let (some (dst, a, fl), some (src, b, _)) := (← ReflectliteValue.parts v, ← ReflectliteValue.parts x)
      | unsupported (.noEntry "extern/(internal/reflectlite.Value).Set.zeroValue")
    if fl / ReflectliteValue.flagAddr % 2 == 0 then unsupported (.noEntry "extern/(internal/reflectlite.Value).Set.unaddressable")
    let val ← loadVar src b
    if ← Rtype.directlyAssignable dst src then storeVar dst a val
    else if ← Rtype.implements dst src then
      if (← Rtype.kind src) == 20 then
        match val with
        | .nilIface => unsupported (.noEntry "extern/reflectlite: a nil value of one interface type handed on as a value of another")
        | _ => storeVar dst a val
      else storeVar dst a (.iface src val)
    else panicString ("reflectlite.Set: value of type " ++ (← Rtype.spelt src) ++ " is not assignable to type " ++ (← Rtype.spelt dst))
    pure (.tuple #[])) := rfl
theorem rl_partsa (a : Addr) (w : World) : (ReflectliteValue.parts (.agg #[.pointer (some ⟨3, 118, none⟩), .pointer (some a), .int .u64 386])).run Tryd.prog w = .ok (some (118, a, 386)) w := by kernel_rfl
theorem rl_partse (a : Addr) (w : World) : (ReflectliteValue.parts (.agg #[.pointer (some ⟨3, 118, none⟩), .pointer (some a), .int .u64 130])).run Tryd.prog w = .ok (some (118, a, 130)) w := by kernel_rfl
theorem rl_direct (w : World) : (Rtype.directlyAssignable 118 118).run Tryd.prog w = .ok true w := by kernel_rfl
theorem rl_set (ta b : Addr) (k : Int) (old : Value) (W : World) (hb : W.cell? b = some (.int .i64 k)) (ht : W.cell? ta = some old) (hf : W.frozen? ta = false) :
    (ReflectliteValue.set #[.agg #[.pointer (some ⟨3, 118, none⟩), .pointer (some ta), .int .u64 386], .agg #[.pointer (some ⟨3, 118, none⟩), .pointer (some b), .int .u64 130]]).run Tryd.prog W
      = .ok (.tuple #[]) (W.setCell ta (.int .i64 k)) := by
  rw [rl_s]
  simp only [Sem.run_bind, rl_partsa, rl_partse, Result.andThen]
  simp [ReflectliteValue.flagAddr, loadVar, isAgg, underlying, Tryd.underlying118, hb, Result.andThen, rl_direct, storeVar, Value.cells, storeCells, Addr.add]
  rw [run_store Tryd.prog W ta _ _ (by rfl)]
  simp [ht, hf]
set_option maxHeartbeats 4000000 in
theorem as_hit (k : Int) (t : Addr) (old : Value) (w : World) (hg : w.cell? ⟨2, 0, none⟩ = some (.iface 183 (.agg #[.pointer (some ⟨3, 27, none⟩)]))) (hgl : 2 < w.heap.size) (ht0 : w.cell? t = some old) (hf0 : w.frozen? t = false) :
    Calls Tryd.prog 134 #[.iface 118 (.int .i64 k), .iface 161 (.pointer (some t))] w fun ev w' => ev = .returned (.bool true) ∧ w' = ((((w.alloc (.cells #[.pointer (some t)] 161)).alloc (.cells #[.pointer (some ⟨3, 161, none⟩), .pointer (some ⟨w.heap.size, 0, none⟩), .int .u64 150] 172)).alloc (.cells #[.pointer (some ⟨3, 161, none⟩), .pointer (some ⟨w.heap.size, 0, none⟩), .int .u64 150] 172)).alloc (.cells #[.int .i64 k] 118)).setCell t (.int .i64 k) := by
  have h6 := @run_callFunc_extern Tryd.prog 144 _ (fun args => ReflectliteValue.unpack (args.getD 0 (.tuple #[]))) Tryd.func144 (by kernel_rfl) (by kernel_rfl) (by kernel_rfl) (by kernel_rfl)
  have h7 := @run_callFunc_extern Tryd.prog 145 _ (ReflectliteValue.methodAny (ReflectliteValue.valueError "reflectlite.Value.Type" 0) (fun t _ _ _ => ReflectliteType.toType t)) Tryd.func145 (by kernel_rfl) (by kernel_rfl) (by kernel_rfl) (by kernel_rfl)
  have h8 := @run_callFunc_extern Tryd.prog 146 _ (ReflectliteValue.method (ReflectliteValue.valueError "reflectlite.Value.IsNil" 0) ReflectliteValue.isNil) Tryd.func146 (by kernel_rfl) (by kernel_rfl) (by kernel_rfl) (by kernel_rfl)
  have h27 := @run_callFunc_extern Tryd.prog 166 _ (ReflectliteType.abiMethod fun t => do pure (.int .u8 (← Rtype.kind t))) Tryd.func166 (by kernel_rfl) (by kernel_rfl) (by kernel_rfl) (by kernel_rfl)
  have h37 := @run_callFunc_extern Tryd.prog 177 _ (ReflectliteType.method ReflectliteType.elem) Tryd.func177 (by kernel_rfl) (by kernel_rfl) (by kernel_rfl) (by kernel_rfl)
  have h38 := @run_callFunc_extern Tryd.prog 178 _ (ReflectliteType.relation "Implements" ReflectliteType.implements_) Tryd.func178 (by kernel_rfl) (by kernel_rfl) (by kernel_rfl) (by kernel_rfl)
  have h10 := @run_callFunc_extern Tryd.prog 149 _ (ReflectliteType.typeOf) Tryd.func149 (by kernel_rfl) (by kernel_rfl) (by kernel_rfl) (by kernel_rfl)
  have h35 := @run_callFunc_extern Tryd.prog 175 _ (ReflectliteType.relation "AssignableTo" ReflectliteType.assignableTo) Tryd.func175 (by kernel_rfl) (by kernel_rfl) (by kernel_rfl) (by kernel_rfl)
  have h11 := @run_callFunc_extern Tryd.prog 150 _ (ReflectliteValue.method (ReflectliteValue.valueError "reflectlite.Value.Elem" 0) ReflectliteValue.elem) Tryd.func150 (by kernel_rfl) (by kernel_rfl) (by kernel_rfl) (by kernel_rfl)
  have h12 := @run_callFunc_extern Tryd.prog 151 _ (ReflectliteValue.set) Tryd.func151 (by kernel_rfl) (by kernel_rfl) (by kernel_rfl) (by kernel_rfl)
  have tO := rl_typeof
  have mA := rl_assm
  have a25 := rl_ass
  have v25 := rl_valuee
  have f6 := rl_value
  have f7 := rl_type
  have mK := rl_kindm
  have mE := rl_elemm
  have mI := rl_implm
  have k27 := rl_kind
  have k25 := rl_kinde
  have e27 := rl_elem
  have i25 := rl_impl
  have n8 := rl_nil ⟨w.heap.size, 0, none⟩ t ((w.alloc (.cells #[.pointer (some t)] 161)).alloc (.cells #[.pointer (some ⟨3, 161, none⟩), .pointer (some ⟨w.heap.size, 0, none⟩), .int .u64 150] 172)) (by simp)
  have hg2 : ((w.alloc (.cells #[.pointer (some t)] 161)).alloc (.cells #[.pointer (some ⟨3, 161, none⟩), .pointer (some ⟨w.heap.size, 0, none⟩), .int .u64 150] 172)).cell? ⟨2, 0, none⟩ = some (.iface 183 (.agg #[.pointer (some ⟨3, 27, none⟩)])) := by
    rw [World.cell?_alloc_lt _ _ ⟨2, 0, none⟩ (by simp; omega), World.cell?_alloc_lt _ _ ⟨2, 0, none⟩ hgl]; exact hg
  have htl : t.block < w.heap.size := by
    rcases Nat.lt_or_ge t.block w.heap.size with h | h
    · exact h
    · simp [World.cell?, Array.getElem?_eq_none h] at ht0
  have el := rl_elemv ⟨w.heap.size, 0, none⟩ t (((w.alloc (.cells #[.pointer (some t)] 161)).alloc (.cells #[.pointer (some ⟨3, 161, none⟩), .pointer (some ⟨w.heap.size, 0, none⟩), .int .u64 150] 172)).alloc (.cells #[.pointer (some ⟨3, 161, none⟩), .pointer (some ⟨w.heap.size, 0, none⟩), .int .u64 150] 172)) (by rw [World.cell?_alloc_lt _ _ ⟨w.heap.size, 0, none⟩ (by simp; omega)]; simp)
  have st := rl_set t ⟨w.heap.size + 1 + 1 + 1, 0, none⟩ k old ((((w.alloc (.cells #[.pointer (some t)] 161)).alloc (.cells #[.pointer (some ⟨3, 161, none⟩), .pointer (some ⟨w.heap.size, 0, none⟩), .int .u64 150] 172)).alloc (.cells #[.pointer (some ⟨3, 161, none⟩), .pointer (some ⟨w.heap.size, 0, none⟩), .int .u64 150] 172)).alloc (.cells #[.int .i64 k] 118))
    (by rw [World.cell?_alloc_at _ _ _ _ (by simp)]; rfl)
    (by rw [World.cell?_alloc_lt _ _ t (by simp; omega), World.cell?_alloc_lt _ _ t (by simp; omega), World.cell?_alloc_lt _ _ t (by simp; omega), World.cell?_alloc_lt _ _ t htl]; exact ht0)
    (by rw [World.frozen?_alloc_old _ _ t (by simp; omega), World.frozen?_alloc_old _ _ t (by simp; omega), World.frozen?_alloc_old _ _ t (by simp; omega), World.frozen?_alloc_old _ _ t (Nat.ne_of_lt htl)]; exact hf0)
  go_enter Tryd.func134, Tryd.ntmps134
  go_wp2
  refine wp_loop_rounds 1 ?_
  rw [rounds_succ]
  go_wp2
  go_ret
  exact ⟨rfl, rfl⟩
/-- An error is told by its number. -/
theorem told_nil (w : World) : Calls Tryd.prog 89 #[.nilIface] w fun e w' => e = .returned (.int .i64 0) ∧ Below w.heap.size w w' := by
  go_enter Tryd.func89, Tryd.ntmps89
  go_wp2
  go_ret
  exact ⟨rfl, (by repeat (first | exact Below.refl _ _ | refine balloc ?_ _ | refine Below.drew ?_ | refine below_drewN ?_ _ | refine below_set ?_ (by first | omega | (dsimp only; omega)) _))⟩
set_option maxHeartbeats 4000000 in
theorem told_err (k : Int) (w : World) (hE : ErrAt w) : Calls Tryd.prog 89 #[.iface 118 (.int .i64 k)] w fun e w' => e = .returned (.int .i64 k) ∧ Below w.heap.size w w' := by
  go_enter Tryd.func89, Tryd.ntmps89
  go_wp2_with fail
  refine (as_hit k ⟨w.heap.size, 0, none⟩ (.int .i64 0) _ (by rw [World.cell?_alloc_lt _ _ ⟨2, 0, none⟩ hE.2]; exact hE.1) (by simp; have := hE.2; omega) (by simp) (by simp)).mono ?_; rintro e w1 ⟨rfl, hw⟩
  have hc : w1.cell? ⟨w.heap.size, 0, none⟩ = some (.int .i64 k) := by
    rw [hw]; refine World.cell?_setCell_same (u := .int .i64 0) _ _ _ ?_
    rw [World.cell?_alloc_lt _ _ ⟨w.heap.size, 0, none⟩ (by simp; omega), World.cell?_alloc_lt _ _ ⟨w.heap.size, 0, none⟩ (by simp; omega), World.cell?_alloc_lt _ _ ⟨w.heap.size, 0, none⟩ (by simp; omega), World.cell?_alloc_lt _ _ ⟨w.heap.size, 0, none⟩ (by simp)]; simp
  have hb : Below w.heap.size w w1 := by
    rw [hw]; exact below_set (balloc (balloc (balloc (balloc (below_alloc _ _) _) _) _) _) (Nat.le_refl _) _
  have hz := hb.size
  have hl : w.heap.size < w1.heap.size := by rw [hw]; simp; omega
  clear hw
  go_wp2
  go_ret
  exact ⟨rfl, hb⟩
theorem error_nil (n : Int) (w : World) (b : Bool) (h : Hid (((0 : Int) == n) = b)) : Calls Tryd.prog 21 #[.nilIface, .int .i64 n] w fun e w' => e = .returned (.bool b) ∧ Below w.heap.size w w' := by
  go_enter Tryd.func21, Tryd.ntmps21
  go_wp2_with fail
  refine (told_nil _).mono ?_; rintro e w1 ⟨rfl, hb⟩
  have he := h.out
  go_wp2
  go_ret
  exact ⟨rfl, hb⟩
theorem error_err (k n : Int) (w : World) (hE : ErrAt w) (b : Bool) (h : Hid ((k == n) = b)) : Calls Tryd.prog 21 #[.iface 118 (.int .i64 k), .int .i64 n] w fun e w' => e = .returned (.bool b) ∧ Below w.heap.size w w' := by
  go_enter Tryd.func21, Tryd.ntmps21
  go_wp2_with fail
  refine (told_err k _ hE).mono ?_; rintro e w1 ⟨rfl, hb⟩
  have he := h.out
  go_wp2
  go_ret
  exact ⟨rfl, hb⟩
/-- An error's value, by its number; it is told as that number. -/
theorem error_same (E : Value) (n : Int) (w : World) (hE : ErrAt w) (h : Hid (E = errV n)) : Calls Tryd.prog 21 #[E, .int .i64 n] w fun e w' => e = .returned (.bool true) ∧ Below w.heap.size w w' := by
  rw [h.out]; unfold errV
  split
  · next e => rw [e]; exact error_nil 0 w true rfl
  · exact error_err n n w hE true (by show _ = _; simp)
end Go.Proofs.YtfnifdmnbccblaaDoor
namespace Go.Proofs.YtfnifdmnbccblaaDoor
open Go.RowKit
set_option maxRecDepth 100000
set_option linter.unusedVariables false
set_option linter.unusedSimpArgs false
/-- A call in every later world. -/
def SsAt (w : World) (f : FuncId) (vs : Array Value) (r : Value) : Prop := ∀ w1 : World, Below w.heap.size w w1 → Calls Tryd.prog f vs w1 fun e w' => e = .returned r ∧ Below w1.heap.size w1 w'
theorem spsl_name {P : Prop} {w : World} {v : Value} {l : List Sp} (h : P → SpSl w v l) : ∃ v', v' = v ∧ (P → SpSl w v' l) := ⟨v, rfl, h⟩
set_option maxHeartbeats 64000000 in
theorem ss_core (x : Int) (t : ByteArray) (key sig H : Sp) (a4 a5 : Option Addr) (n4 n5 c4 c5 : Nat) (Ts : List ByteArray) (Hs : List Sp) (w : World) (hE : ErrAt w) (hF : FarAt w) (hz : t.size ≤ 140737488351232) (j4 : n4 ≤ 9223372036854775807) (j5 : n5 ≤ 9223372036854775807)
    (Bx B20 B46 B122 : Bool) (E1 E2a E2b E2 E3 E4 E5 E6 E7 : Int) (W1 W3 : Sp)
    (jBx : Hid (secB x = Bx)) (kOf : Hid (SsAt w 70 #[.string t] (spV H)))
    (h1 : Hid ((Bx = false ∧ E1 = 1 ∧ W1 = ⟨0, 0, false⟩) ∨ (Bx = true ∧ 60 < t.size ∧ E1 = 4 ∧ W1 = ⟨0, 0, false⟩) ∨ (Bx = true ∧ t.size ≤ 60 ∧ E1 = 0 ∧ SsAt w 31 #[spV H, .int .i64 x] (spV W1))))
    (kSg : Hid (SsAt w 13 #[.int .i64 x, .string t] (.tuple #[spV W1, errV E1])))
    (h2 : Hid ((60 < t.size ∧ E2a = 4) ∨ (t.size ≤ 60 ∧ E2a = 0)))
    (h3 : Hid ((E2a = 0 ∧ SsAt w 18 #[spV sig, spV ⟨1189, 3667, false⟩] (.int .i64 E2b)) ∨ ((E2a == 0) = false ∧ E2b = E2a)))
    (h4 : Hid ((E2b = 0 ∧ SsAt w 18 #[spV H, spV key] (.int .i64 E2)) ∨ ((E2b == 0) = false ∧ E2 = E2b)))
    (h5 : Hid ((E2 = 0 ∧ ∃ X0 X1 Y0 Y1 : Int, SsAt w 19 #[spV sig, spV ⟨1189, 3667, false⟩] (.agg #[.int .i64 X0, .int .i64 X1]) ∧ SsAt w 19 #[spV H, spV key] (.agg #[.int .i64 Y0, .int .i64 Y1]) ∧ twB X0 X1 Y0 Y1 = B20) ∨ ((E2 == 0) = false ∧ B20 = false)))
    (kV : Hid (SsAt w 14 #[spV key, .string t, spV sig] (.tuple #[.bool B20, errV E2])))
    (kSp : Hid (SsAt w 44 #[.slice a4 n4 c4] (.int .i64 E3)))
    (h6 : Hid ((E3 = 0 ∧ SsAt w 72 #[.slice a4 n4 c4] (spV W3)) ∨ ((E3 == 0) = false ∧ W3 = ⟨0, 0, false⟩)))
    (kJ : Hid (SsAt w 16 #[.slice a4 n4 c4] (.tuple #[spV W3, errV E3])))
    (h7a : Hid ((12 < n4 ∧ B122 = true) ∨ (n4 ≤ 12 ∧ 12 < n5 ∧ B122 = true) ∨ (n4 ≤ 12 ∧ n5 ≤ 12 ∧ B122 = false)))
    (h7 : Hid ((B122 = true ∧ E4 = 4) ∨ (B122 = false ∧ ((n4 : Int) != (n5 : Int)) = true ∧ E4 = 3) ∨ (B122 = false ∧ ((n4 : Int) != (n5 : Int)) = false ∧ E4 = 0)))
    (h8 : Hid (((E4 == 0) = false ∧ E5 = E4) ∨ (E4 = 0 ∧ ∃ k : Nat, n5 = Ts.length ∧ Ts.length ≤ 12 ∧ Hs.length = Ts.length ∧ (0 < Ts.length → ∃ b o, a5 = some ⟨b, o, none⟩ ∧ StrsAt w b o Ts) ∧ k ≤ Ts.length ∧
      (∀ i (h : i < Ts.length) (h' : i < Hs.length), ∀ w1 : World, Below w.heap.size w w1 → Calls Tryd.prog 70 #[.string Ts[i]] w1 fun e w' => e = .returned (spV Hs[i]) ∧ Below w1.heap.size w1 w') ∧
      (∀ i (h : i < Ts.length), i < k → Ts[i].size ≤ 60) ∧ (∀ (h : k < Ts.length), 60 < Ts[k].size ∧ Ts[k].size ≤ 140737488351232 ∧ E5 = 4) ∧ (k = Ts.length → E5 = 0))))
    (h9 : Hid ((E5 = 0 ∧ SsAt w 18 #[spV sig, spV ⟨1189, 3667, false⟩] (.int .i64 E6)) ∨ ((E5 == 0) = false ∧ E6 = E5)))
    (h10 : Hid (((E6 == 0) = false ∧ E7 = E6) ∨ (E6 = 0 ∧ ∃ (M : List Sp) (k : Nat), n4 = M.length ∧ Hs.length = M.length ∧ M.length ≤ 12 ∧ (0 < M.length → ∃ b o, a4 = some ⟨b, o, none⟩ ∧ SpotsAt w b o M) ∧ k ≤ M.length ∧
      (∀ i (h : i < Hs.length) (h' : i < M.length), i < k → (∀ w : World, Calls Tryd.prog 18 #[spV Hs[i], spV M[i]] w fun e w' => e = .returned (.int .i64 0) ∧ Below w.heap.size w w')) ∧ (∀ (h : k < Hs.length) (h' : k < M.length), (∀ w : World, Calls Tryd.prog 18 #[spV Hs[k], spV M[k]] w fun e w' => e = .returned (.int .i64 E7) ∧ Below w.heap.size w w') ∧ (E7 == 0) = false) ∧ (k = M.length → E7 = 0))))
    (h11 : Hid ((E7 = 0 ∧ ∃ P0 P1 Q0 Q1 : Int, SsAt w 19 #[spV sig, spV ⟨1189, 3667, false⟩] (.agg #[.int .i64 P0, .int .i64 P1]) ∧ (∀ (w1 : World) (v : Value), Below w.heap.size w w1 → SpSl w1 v Hs → Calls Tryd.prog 73 #[v, .slice a4 n4 c4] w1 fun e w' => e = .returned (.agg #[.int .i64 Q0, .int .i64 Q1]) ∧ Below w1.heap.size w1 w') ∧ twB P0 P1 Q0 Q1 = B46) ∨ ((E7 == 0) = false ∧ B46 = false)))
    (kA : Hid (SsAt w 17 #[.slice a4 n4 c4, .slice a5 n5 c5, spV sig] (.tuple #[.bool B46, errV E7]))) :
    Calls Tryd.prog 10 #[.int .i64 x, .string t, spV key, spV sig, .slice a4 n4 c4, .slice a5 n5 c5] w fun e w' => e = .returned (.bool true) ∧ Below w.heap.size w w' := by
  go_enter Tryd.func10, Tryd.ntmps10
  go_wp2_with fail
  refine (rSecret_b x Bx _ jBx).mono ?_; rintro e w' ⟨rfl, rfl⟩
  go_upto_if 31 with fail
  go_cut [13] from 31 to 38 (fun s13 wx => s13 = .int .i64 E1 ∧ Below w.heap.size w wx ∧ w.heap.size < wx.heap.size ∧ w.heap.size + 1 < wx.heap.size ∧ w.heap.size + 1 + 1 < wx.heap.size ∧ wx.cell? ⟨w.heap.size, 0, none⟩ = some (.int .i64 key.x) ∧ wx.cell? ⟨w.heap.size, 1, none⟩ = some (.int .i64 key.y) ∧ wx.cell? ⟨w.heap.size, 2, none⟩ = some (.bool key.far) ∧ wx.cell? ⟨w.heap.size + 1, 0, none⟩ = some (.int .i64 sig.x) ∧ wx.cell? ⟨w.heap.size + 1, 1, none⟩ = some (.int .i64 sig.y) ∧ wx.cell? ⟨w.heap.size + 1, 2, none⟩ = some (.bool sig.far) ∧ wx.cell? ⟨w.heap.size + 1 + 1, 0, none⟩ = some (.int .i64 W1.x) ∧ wx.cell? ⟨w.heap.size + 1 + 1, 1, none⟩ = some (.int .i64 W1.y) ∧ wx.cell? ⟨w.heap.size + 1 + 1, 2, none⟩ = some (.bool W1.far) ∧ wx.frozen? ⟨w.heap.size + 1 + 1, 0, none⟩ = false ∧ wx.frozen? ⟨w.heap.size + 1 + 1, 1, none⟩ = false ∧ wx.frozen? ⟨w.heap.size + 1 + 1, 2, none⟩ = false)
  case first =>
    rcases h1.out with ⟨e1, e2, e3⟩ | ⟨e1, e2, e3, e4⟩ | ⟨e1, e2, e3, e4⟩
    · subst e1 e2 e3
      clear h1
      go_wp2_with fail
      go_meet
      exact ⟨rfl, (by repeat (first | exact Below.refl _ _ | refine balloc ?_ _ | refine Below.drew ?_ | refine below_drewN ?_ _ | refine below_set ?_ (by first | omega | (dsimp only; omega)) _)), (by first | with_reducible assumption | omega | (simp only [World.heap_drewN, World.size_alloc, World.size_setCell, World.size_drew]; omega)), (by first | with_reducible assumption | omega | (simp only [World.heap_drewN, World.size_alloc, World.size_setCell, World.size_drew]; omega)), (by first | with_reducible assumption | omega | (simp only [World.heap_drewN, World.size_alloc, World.size_setCell, World.size_drew]; omega)), (by first | with_reducible assumption | go_simp), (by first | with_reducible assumption | go_simp), (by first | with_reducible assumption | go_simp), (by first | with_reducible assumption | go_simp), (by first | with_reducible assumption | go_simp), (by first | with_reducible assumption | go_simp), (by first | with_reducible assumption | go_simp), (by first | with_reducible assumption | go_simp), (by first | with_reducible assumption | go_simp), (by first | with_reducible assumption | go_simp), (by first | with_reducible assumption | go_simp), (by first | with_reducible assumption | go_simp)⟩
    · subst e1 e3 e4
      clear h1
      have g1 : decide ((60 : Int) < (t.size : Int)) = true := by rw [decide_eq_true_iff]; omega
      go_wp2_with fail
      go_meet
      exact ⟨rfl, (by repeat (first | exact Below.refl _ _ | refine balloc ?_ _ | refine Below.drew ?_ | refine below_drewN ?_ _ | refine below_set ?_ (by first | omega | (dsimp only; omega)) _)), (by first | with_reducible assumption | omega | (simp only [World.heap_drewN, World.size_alloc, World.size_setCell, World.size_drew]; omega)), (by first | with_reducible assumption | omega | (simp only [World.heap_drewN, World.size_alloc, World.size_setCell, World.size_drew]; omega)), (by first | with_reducible assumption | omega | (simp only [World.heap_drewN, World.size_alloc, World.size_setCell, World.size_drew]; omega)), (by first | with_reducible assumption | go_simp), (by first | with_reducible assumption | go_simp), (by first | with_reducible assumption | go_simp), (by first | with_reducible assumption | go_simp), (by first | with_reducible assumption | go_simp), (by first | with_reducible assumption | go_simp), (by first | with_reducible assumption | go_simp), (by first | with_reducible assumption | go_simp), (by first | with_reducible assumption | go_simp), (by first | with_reducible assumption | go_simp), (by first | with_reducible assumption | go_simp), (by first | with_reducible assumption | go_simp)⟩
    · subst e1 e3
      replace e4 := Lib.hid e4
      clear h1
      have g1 : decide ((60 : Int) < (t.size : Int)) = false := by rw [decide_eq_false_iff_not]; omega
      go_wp2_with fail
      refine (kOf.out _ (by repeat (first | with_reducible exact Below.refl _ _ | with_reducible refine below_set ?_ (by first | omega | (dsimp only; omega)) _ | with_reducible refine balloc ?_ _ | with_reducible refine Below.drew ?_ | with_reducible refine below_drewN ?_ _ | exact Below.refl _ _ | refine balloc ?_ _ | refine Below.drew ?_ | refine below_drewN ?_ _ | refine below_set ?_ (by first | omega | (dsimp only; omega)) _))).mono ?_; rintro e w1 ⟨rfl, hb⟩
      obtain ⟨hc1, hf1⟩ := bcell hb
      have z1 := hb.size
      try simp only [World.size_alloc, World.size_setCell, World.size_drew] at z1
      have s1_0 : w.heap.size < w1.heap.size := by omega
      have s1_1 : w.heap.size + 1 < w1.heap.size := by omega
      have s1_2 : w.heap.size + 1 + 1 < w1.heap.size := by omega
      have hB1 : Below w.heap.size w w1 := below_seq (by repeat (first | with_reducible exact Below.refl _ _ | with_reducible refine below_set ?_ (by first | omega | (dsimp only; omega)) _ | with_reducible refine balloc ?_ _ | with_reducible refine Below.drew ?_ | with_reducible refine below_drewN ?_ _ | exact Below.refl _ _ | refine balloc ?_ _ | refine Below.drew ?_ | refine below_drewN ?_ _ | refine below_set ?_ (by first | omega | (dsimp only; omega)) _)) hb
      clear hb
      have m1_0_0 : w1.cell? ⟨w.heap.size, 0, none⟩ = some (.int .i64 key.x) := by go_simp
      have m1_0_1 : w1.cell? ⟨w.heap.size, 1, none⟩ = some (.int .i64 key.y) := by go_simp
      have m1_0_2 : w1.cell? ⟨w.heap.size, 2, none⟩ = some (.bool key.far) := by go_simp
      have m1_1_0 : w1.cell? ⟨w.heap.size + 1, 0, none⟩ = some (.int .i64 sig.x) := by go_simp
      have m1_1_1 : w1.cell? ⟨w.heap.size + 1, 1, none⟩ = some (.int .i64 sig.y) := by go_simp
      have m1_1_2 : w1.cell? ⟨w.heap.size + 1, 2, none⟩ = some (.bool sig.far) := by go_simp
      have m1_2_0 : w1.cell? ⟨w.heap.size + 1 + 1, 0, none⟩ = some (.int .i64 0) := by go_simp
      have m1_2_1 : w1.cell? ⟨w.heap.size + 1 + 1, 1, none⟩ = some (.int .i64 0) := by go_simp
      have m1_2_2 : w1.cell? ⟨w.heap.size + 1 + 1, 2, none⟩ = some (.bool false) := by go_simp
      clear hc1
      have y1_0_0 : w1.frozen? ⟨w.heap.size + 1 + 1, 0, none⟩ = false := by go_simp
      have y1_0_1 : w1.frozen? ⟨w.heap.size + 1 + 1, 1, none⟩ = false := by go_simp
      have y1_0_2 : w1.frozen? ⟨w.heap.size + 1 + 1, 2, none⟩ = false := by go_simp
      clear hf1
      go_wp2_with fail
      refine (e4.out _ (by repeat (first | with_reducible exact hB1 | with_reducible exact Below.refl _ _ | with_reducible refine below_set ?_ (by first | omega | (dsimp only; omega)) _ | with_reducible refine balloc ?_ _ | with_reducible refine Below.drew ?_ | with_reducible refine below_drewN ?_ _ | exact hB1 | exact Below.refl _ _ | refine balloc ?_ _ | refine Below.drew ?_ | refine below_drewN ?_ _ | refine below_set ?_ (by first | omega | (dsimp only; omega)) _))).mono ?_; rintro e w2 ⟨rfl, hb⟩
      obtain ⟨hc2, hf2⟩ := bcell hb
      have z2 := hb.size
      try simp only [World.size_alloc, World.size_setCell, World.size_drew] at z2
      have s2_0 : w.heap.size < w2.heap.size := by omega
      have s2_1 : w.heap.size + 1 < w2.heap.size := by omega
      have s2_2 : w.heap.size + 1 + 1 < w2.heap.size := by omega
      have hB2 : Below w.heap.size w w2 := below_seq (by repeat (first | with_reducible exact hB1 | with_reducible exact Below.refl _ _ | with_reducible refine below_set ?_ (by first | omega | (dsimp only; omega)) _ | with_reducible refine balloc ?_ _ | with_reducible refine Below.drew ?_ | with_reducible refine below_drewN ?_ _ | exact hB1 | exact Below.refl _ _ | refine balloc ?_ _ | refine Below.drew ?_ | refine below_drewN ?_ _ | refine below_set ?_ (by first | omega | (dsimp only; omega)) _)) hb
      clear hb
      have m2_0_0 : w2.cell? ⟨w.heap.size, 0, none⟩ = some (.int .i64 key.x) := by go_simp
      have m2_0_1 : w2.cell? ⟨w.heap.size, 1, none⟩ = some (.int .i64 key.y) := by go_simp
      have m2_0_2 : w2.cell? ⟨w.heap.size, 2, none⟩ = some (.bool key.far) := by go_simp
      have m2_1_0 : w2.cell? ⟨w.heap.size + 1, 0, none⟩ = some (.int .i64 sig.x) := by go_simp
      have m2_1_1 : w2.cell? ⟨w.heap.size + 1, 1, none⟩ = some (.int .i64 sig.y) := by go_simp
      have m2_1_2 : w2.cell? ⟨w.heap.size + 1, 2, none⟩ = some (.bool sig.far) := by go_simp
      have m2_2_0 : w2.cell? ⟨w.heap.size + 1 + 1, 0, none⟩ = some (.int .i64 0) := by go_simp
      have m2_2_1 : w2.cell? ⟨w.heap.size + 1 + 1, 1, none⟩ = some (.int .i64 0) := by go_simp
      have m2_2_2 : w2.cell? ⟨w.heap.size + 1 + 1, 2, none⟩ = some (.bool false) := by go_simp
      clear m1_0_0 m1_0_1 m1_0_2 m1_1_0 m1_1_1 m1_1_2 m1_2_0 m1_2_1 m1_2_2
      clear hc2
      have y2_0_0 : w2.frozen? ⟨w.heap.size + 1 + 1, 0, none⟩ = false := by go_simp
      have y2_0_1 : w2.frozen? ⟨w.heap.size + 1 + 1, 1, none⟩ = false := by go_simp
      have y2_0_2 : w2.frozen? ⟨w.heap.size + 1 + 1, 2, none⟩ = false := by go_simp
      clear z1 hB1 s1_0 s1_1 s1_2 y1_0_0 y1_0_1 y1_0_2 hf2
      go_wp2_with fail
      go_meet
      exact ⟨rfl, (by repeat (first | with_reducible exact hB2 | with_reducible exact Below.refl _ _ | with_reducible refine below_set ?_ (by first | omega | (dsimp only; omega)) _ | with_reducible refine balloc ?_ _ | with_reducible refine Below.drew ?_ | with_reducible refine below_drewN ?_ _ | exact hB2 | exact Below.refl _ _ | refine balloc ?_ _ | refine Below.drew ?_ | refine below_drewN ?_ _ | refine below_set ?_ (by first | omega | (dsimp only; omega)) _)), (by first | with_reducible assumption | omega | (simp only [World.heap_drewN, World.size_alloc, World.size_setCell, World.size_drew]; omega)), (by first | with_reducible assumption | omega | (simp only [World.heap_drewN, World.size_alloc, World.size_setCell, World.size_drew]; omega)), (by first | with_reducible assumption | omega | (simp only [World.heap_drewN, World.size_alloc, World.size_setCell, World.size_drew]; omega)), (by first | with_reducible assumption | go_simp), (by first | with_reducible assumption | go_simp), (by first | with_reducible assumption | go_simp), (by first | with_reducible assumption | go_simp), (by first | with_reducible assumption | go_simp), (by first | with_reducible assumption | go_simp), (by first | with_reducible assumption | go_simp), (by first | with_reducible assumption | go_simp), (by first | with_reducible assumption | go_simp), (by first | with_reducible assumption | go_simp), (by first | with_reducible assumption | go_simp), (by first | with_reducible assumption | go_simp)⟩
  case rest =>
    obtain ⟨w1, hwq⟩ : ∃ x, x = wc := ⟨_, rfl⟩
    subst hwq
    obtain ⟨rfl, hB1, s1_0, s1_1, s1_2, m1_0_0, m1_0_1, m1_0_2, m1_1_0, m1_1_1, m1_1_2, m1_2_0, m1_2_1, m1_2_2, y1_0_0, y1_0_1, y1_0_2⟩ := hcut
    clear h1
    go_wp2_with fail
    refine (kSg.out _ (by repeat (first | with_reducible exact hB1 | with_reducible exact Below.refl _ _ | with_reducible refine below_set ?_ (by first | omega | (dsimp only; omega)) _ | with_reducible refine balloc ?_ _ | with_reducible refine Below.drew ?_ | with_reducible refine below_drewN ?_ _ | exact hB1 | exact Below.refl _ _ | refine balloc ?_ _ | refine Below.drew ?_ | refine below_drewN ?_ _ | refine below_set ?_ (by first | omega | (dsimp only; omega)) _))).mono ?_; rintro e w2 ⟨rfl, hb⟩
    obtain ⟨hc2, hf2⟩ := bcell hb
    have z2 := hb.size
    try simp only [World.size_alloc, World.size_setCell, World.size_drew] at z2
    have s2_0 : w.heap.size < w2.heap.size := by omega
    have s2_1 : w.heap.size + 1 < w2.heap.size := by omega
    have s2_2 : w.heap.size + 1 + 1 < w2.heap.size := by omega
    have hB2 : Below w.heap.size w w2 := below_seq (by repeat (first | with_reducible exact hB1 | with_reducible exact Below.refl _ _ | with_reducible refine below_set ?_ (by first | omega | (dsimp only; omega)) _ | with_reducible refine balloc ?_ _ | with_reducible refine Below.drew ?_ | with_reducible refine below_drewN ?_ _ | exact hB1 | exact Below.refl _ _ | refine balloc ?_ _ | refine Below.drew ?_ | refine below_drewN ?_ _ | refine below_set ?_ (by first | omega | (dsimp only; omega)) _)) hb
    clear hb
    have m2_0_0 : w2.cell? ⟨w.heap.size, 0, none⟩ = some (.int .i64 key.x) := by go_simp
    have m2_0_1 : w2.cell? ⟨w.heap.size, 1, none⟩ = some (.int .i64 key.y) := by go_simp
    have m2_0_2 : w2.cell? ⟨w.heap.size, 2, none⟩ = some (.bool key.far) := by go_simp
    have m2_1_0 : w2.cell? ⟨w.heap.size + 1, 0, none⟩ = some (.int .i64 sig.x) := by go_simp
    have m2_1_1 : w2.cell? ⟨w.heap.size + 1, 1, none⟩ = some (.int .i64 sig.y) := by go_simp
    have m2_1_2 : w2.cell? ⟨w.heap.size + 1, 2, none⟩ = some (.bool sig.far) := by go_simp
    have m2_2_0 : w2.cell? ⟨w.heap.size + 1 + 1, 0, none⟩ = some (.int .i64 W1.x) := by go_simp
    have m2_2_1 : w2.cell? ⟨w.heap.size + 1 + 1, 1, none⟩ = some (.int .i64 W1.y) := by go_simp
    have m2_2_2 : w2.cell? ⟨w.heap.size + 1 + 1, 2, none⟩ = some (.bool W1.far) := by go_simp
    clear m1_0_0 m1_0_1 m1_0_2 m1_1_0 m1_1_1 m1_1_2 m1_2_0 m1_2_1 m1_2_2
    clear hc2
    have y2_0_0 : w2.frozen? ⟨w.heap.size + 1 + 1, 0, none⟩ = false := by go_simp
    have y2_0_1 : w2.frozen? ⟨w.heap.size + 1 + 1, 1, none⟩ = false := by go_simp
    have y2_0_2 : w2.frozen? ⟨w.heap.size + 1 + 1, 2, none⟩ = false := by go_simp
    clear hB1 s1_0 s1_1 s1_2 y1_0_0 y1_0_1 y1_0_2 hf2
    go_wp2_with fail
    refine (error_same (errV E1) E1 _ (hE.below (by repeat (first | with_reducible exact hB2 | with_reducible exact Below.refl _ _ | with_reducible refine below_set ?_ (by first | omega | (dsimp only; omega)) _ | with_reducible refine balloc ?_ _ | with_reducible refine Below.drew ?_ | with_reducible refine below_drewN ?_ _ | exact hB2 | exact Below.refl _ _ | refine balloc ?_ _ | refine Below.drew ?_ | refine below_drewN ?_ _ | refine below_set ?_ (by first | omega | (dsimp only; omega)) _))) (Lib.hid rfl)).mono ?_; rintro e w3 ⟨rfl, hb⟩
    obtain ⟨hc3, hf3⟩ := bcell hb
    have z3 := hb.size
    try simp only [World.size_alloc, World.size_setCell, World.size_drew] at z3
    have s3_0 : w.heap.size < w3.heap.size := by omega
    have s3_1 : w.heap.size + 1 < w3.heap.size := by omega
    have s3_2 : w.heap.size + 1 + 1 < w3.heap.size := by omega
    have s3_3 : w2.heap.size < w3.heap.size := by omega
    have hB3 : Below w.heap.size w w3 := below_seq (by repeat (first | with_reducible exact hB2 | with_reducible exact Below.refl _ _ | with_reducible refine below_set ?_ (by first | omega | (dsimp only; omega)) _ | with_reducible refine balloc ?_ _ | with_reducible refine Below.drew ?_ | with_reducible refine below_drewN ?_ _ | exact hB2 | exact Below.refl _ _ | refine balloc ?_ _ | refine Below.drew ?_ | refine below_drewN ?_ _ | refine below_set ?_ (by first | omega | (dsimp only; omega)) _)) hb
    clear hb
    have m3_0_0 : w3.cell? ⟨w.heap.size, 0, none⟩ = some (.int .i64 key.x) := by go_simp
    have m3_0_1 : w3.cell? ⟨w.heap.size, 1, none⟩ = some (.int .i64 key.y) := by go_simp
    have m3_0_2 : w3.cell? ⟨w.heap.size, 2, none⟩ = some (.bool key.far) := by go_simp
    have m3_1_0 : w3.cell? ⟨w.heap.size + 1, 0, none⟩ = some (.int .i64 sig.x) := by go_simp
    have m3_1_1 : w3.cell? ⟨w.heap.size + 1, 1, none⟩ = some (.int .i64 sig.y) := by go_simp
    have m3_1_2 : w3.cell? ⟨w.heap.size + 1, 2, none⟩ = some (.bool sig.far) := by go_simp
    have m3_2_0 : w3.cell? ⟨w.heap.size + 1 + 1, 0, none⟩ = some (.int .i64 W1.x) := by go_simp
    have m3_2_1 : w3.cell? ⟨w.heap.size + 1 + 1, 1, none⟩ = some (.int .i64 W1.y) := by go_simp
    have m3_2_2 : w3.cell? ⟨w.heap.size + 1 + 1, 2, none⟩ = some (.bool W1.far) := by go_simp
    have m3_3_0 : w3.cell? ⟨w2.heap.size, 0, none⟩ = some (.int .i64 W1.x) := by go_simp
    have m3_3_1 : w3.cell? ⟨w2.heap.size, 1, none⟩ = some (.int .i64 W1.y) := by go_simp
    have m3_3_2 : w3.cell? ⟨w2.heap.size, 2, none⟩ = some (.bool W1.far) := by go_simp
    clear m2_0_0 m2_0_1 m2_0_2 m2_1_0 m2_1_1 m2_1_2 m2_2_0 m2_2_1 m2_2_2
    clear hc3
    have y3_0_0 : w3.frozen? ⟨w.heap.size + 1 + 1, 0, none⟩ = false := by go_simp
    have y3_0_1 : w3.frozen? ⟨w.heap.size + 1 + 1, 1, none⟩ = false := by go_simp
    have y3_0_2 : w3.frozen? ⟨w.heap.size + 1 + 1, 2, none⟩ = false := by go_simp
    have y3_1_0 : w3.frozen? ⟨w2.heap.size, 0, none⟩ = false := by go_simp
    have y3_1_1 : w3.frozen? ⟨w2.heap.size, 1, none⟩ = false := by go_simp
    have y3_1_2 : w3.frozen? ⟨w2.heap.size, 2, none⟩ = false := by go_simp
    clear z2 hB2 y2_0_0 y2_0_1 y2_0_2 hf3
    go_wp2_with fail
    refine (refBase_k _).mono ?_; rintro e w4 ⟨rfl, hb⟩
    obtain ⟨hc4, hf4⟩ := bcell hb
    have z4 := hb.size
    try simp only [World.size_alloc, World.size_setCell, World.size_drew] at z4
    have s4_0 : w.heap.size < w4.heap.size := by omega
    have s4_1 : w.heap.size + 1 < w4.heap.size := by omega
    have s4_2 : w.heap.size + 1 + 1 < w4.heap.size := by omega
    have s4_3 : w2.heap.size < w4.heap.size := by omega
    have hB4 : Below w.heap.size w w4 := below_seq (by repeat (first | with_reducible exact hB3 | with_reducible exact Below.refl _ _ | with_reducible refine below_set ?_ (by first | omega | (dsimp only; omega)) _ | with_reducible refine balloc ?_ _ | with_reducible refine Below.drew ?_ | with_reducible refine below_drewN ?_ _ | exact hB3 | exact Below.refl _ _ | refine balloc ?_ _ | refine Below.drew ?_ | refine below_drewN ?_ _ | refine below_set ?_ (by first | omega | (dsimp only; omega)) _)) hb
    clear hb
    have m4_0_0 : w4.cell? ⟨w.heap.size, 0, none⟩ = some (.int .i64 key.x) := by go_simp
    have m4_0_1 : w4.cell? ⟨w.heap.size, 1, none⟩ = some (.int .i64 key.y) := by go_simp
    have m4_0_2 : w4.cell? ⟨w.heap.size, 2, none⟩ = some (.bool key.far) := by go_simp
    have m4_1_0 : w4.cell? ⟨w.heap.size + 1, 0, none⟩ = some (.int .i64 sig.x) := by go_simp
    have m4_1_1 : w4.cell? ⟨w.heap.size + 1, 1, none⟩ = some (.int .i64 sig.y) := by go_simp
    have m4_1_2 : w4.cell? ⟨w.heap.size + 1, 2, none⟩ = some (.bool sig.far) := by go_simp
    have m4_2_0 : w4.cell? ⟨w.heap.size + 1 + 1, 0, none⟩ = some (.int .i64 W1.x) := by go_simp
    have m4_2_1 : w4.cell? ⟨w.heap.size + 1 + 1, 1, none⟩ = some (.int .i64 W1.y) := by go_simp
    have m4_2_2 : w4.cell? ⟨w.heap.size + 1 + 1, 2, none⟩ = some (.bool W1.far) := by go_simp
    have m4_3_0 : w4.cell? ⟨w2.heap.size, 0, none⟩ = some (.int .i64 W1.x) := by go_simp
    have m4_3_1 : w4.cell? ⟨w2.heap.size, 1, none⟩ = some (.int .i64 W1.y) := by go_simp
    have m4_3_2 : w4.cell? ⟨w2.heap.size, 2, none⟩ = some (.bool W1.far) := by go_simp
    clear m3_0_0 m3_0_1 m3_0_2 m3_1_0 m3_1_1 m3_1_2 m3_2_0 m3_2_1 m3_2_2 m3_3_0 m3_3_1 m3_3_2
    clear hc4
    have y4_0_0 : w4.frozen? ⟨w.heap.size + 1 + 1, 0, none⟩ = false := by go_simp
    have y4_0_1 : w4.frozen? ⟨w.heap.size + 1 + 1, 1, none⟩ = false := by go_simp
    have y4_0_2 : w4.frozen? ⟨w.heap.size + 1 + 1, 2, none⟩ = false := by go_simp
    have y4_1_0 : w4.frozen? ⟨w2.heap.size, 0, none⟩ = false := by go_simp
    have y4_1_1 : w4.frozen? ⟨w2.heap.size, 1, none⟩ = false := by go_simp
    have y4_1_2 : w4.frozen? ⟨w2.heap.size, 2, none⟩ = false := by go_simp
    clear z3 hB3 s3_0 s3_1 s3_2 s3_3 y3_0_0 y3_0_1 y3_0_2 y3_1_0 y3_1_1 y3_1_2 hf4
    go_upto_if 56 with fail
    go_cut [13] from 56 to 57 (fun s13 wx => s13 = .int .i64 E2a ∧ Below w.heap.size w wx ∧ w.heap.size < wx.heap.size ∧ w.heap.size + 1 < wx.heap.size ∧ w.heap.size + 1 + 1 < wx.heap.size ∧ w2.heap.size < wx.heap.size ∧ w4.heap.size < wx.heap.size ∧ wx.cell? ⟨w.heap.size, 0, none⟩ = some (.int .i64 key.x) ∧ wx.cell? ⟨w.heap.size, 1, none⟩ = some (.int .i64 key.y) ∧ wx.cell? ⟨w.heap.size, 2, none⟩ = some (.bool key.far) ∧ wx.cell? ⟨w.heap.size + 1, 0, none⟩ = some (.int .i64 sig.x) ∧ wx.cell? ⟨w.heap.size + 1, 1, none⟩ = some (.int .i64 sig.y) ∧ wx.cell? ⟨w.heap.size + 1, 2, none⟩ = some (.bool sig.far) ∧ wx.cell? ⟨w.heap.size + 1 + 1, 0, none⟩ = some (.int .i64 W1.x) ∧ wx.cell? ⟨w.heap.size + 1 + 1, 1, none⟩ = some (.int .i64 W1.y) ∧ wx.cell? ⟨w.heap.size + 1 + 1, 2, none⟩ = some (.bool W1.far) ∧ wx.cell? ⟨w2.heap.size, 0, none⟩ = some (.int .i64 W1.x) ∧ wx.cell? ⟨w2.heap.size, 1, none⟩ = some (.int .i64 W1.y) ∧ wx.cell? ⟨w2.heap.size, 2, none⟩ = some (.bool W1.far) ∧ wx.cell? ⟨w4.heap.size, 0, none⟩ = some (.int .i64 (⟨1189, 3667, false⟩ : Sp).x) ∧ wx.cell? ⟨w4.heap.size, 1, none⟩ = some (.int .i64 (⟨1189, 3667, false⟩ : Sp).y) ∧ wx.cell? ⟨w4.heap.size, 2, none⟩ = some (.bool (⟨1189, 3667, false⟩ : Sp).far) ∧ wx.frozen? ⟨w.heap.size + 1 + 1, 0, none⟩ = false ∧ wx.frozen? ⟨w.heap.size + 1 + 1, 1, none⟩ = false ∧ wx.frozen? ⟨w.heap.size + 1 + 1, 2, none⟩ = false ∧ wx.frozen? ⟨w2.heap.size, 0, none⟩ = false ∧ wx.frozen? ⟨w2.heap.size, 1, none⟩ = false ∧ wx.frozen? ⟨w2.heap.size, 2, none⟩ = false)
    case first =>
      rcases h2.out with ⟨e1, e2⟩ | ⟨e1, e2⟩
      · subst e2
        clear h2
        have g1 : decide ((60 : Int) < (t.size : Int)) = true := by rw [decide_eq_true_iff]; omega
        go_wp2_with fail
        go_meet
        exact ⟨rfl, (by repeat (first | with_reducible exact hB4 | with_reducible exact Below.refl _ _ | with_reducible refine below_set ?_ (by first | omega | (dsimp only; omega)) _ | with_reducible refine balloc ?_ _ | with_reducible refine Below.drew ?_ | with_reducible refine below_drewN ?_ _ | exact hB4 | exact Below.refl _ _ | refine balloc ?_ _ | refine Below.drew ?_ | refine below_drewN ?_ _ | refine below_set ?_ (by first | omega | (dsimp only; omega)) _)), (by first | with_reducible assumption | omega | (simp only [World.heap_drewN, World.size_alloc, World.size_setCell, World.size_drew]; omega)), (by first | with_reducible assumption | omega | (simp only [World.heap_drewN, World.size_alloc, World.size_setCell, World.size_drew]; omega)), (by first | with_reducible assumption | omega | (simp only [World.heap_drewN, World.size_alloc, World.size_setCell, World.size_drew]; omega)), (by first | with_reducible assumption | omega | (simp only [World.heap_drewN, World.size_alloc, World.size_setCell, World.size_drew]; omega)), (by first | with_reducible assumption | omega | (simp only [World.heap_drewN, World.size_alloc, World.size_setCell, World.size_drew]; omega)), (by first | with_reducible assumption | go_simp), (by first | with_reducible assumption | go_simp), (by first | with_reducible assumption | go_simp), (by first | with_reducible assumption | go_simp), (by first | with_reducible assumption | go_simp), (by first | with_reducible assumption | go_simp), (by first | with_reducible assumption | go_simp), (by first | with_reducible assumption | go_simp), (by first | with_reducible assumption | go_simp), (by first | with_reducible assumption | go_simp), (by first | with_reducible assumption | go_simp), (by first | with_reducible assumption | go_simp), (by first | with_reducible assumption | go_simp), (by first | with_reducible assumption | go_simp), (by first | with_reducible assumption | go_simp), (by first | with_reducible assumption | go_simp), (by first | with_reducible assumption | go_simp), (by first | with_reducible assumption | go_simp), (by first | with_reducible assumption | go_simp), (by first | with_reducible assumption | go_simp), (by first | with_reducible assumption | go_simp)⟩
      · subst e2
        clear h2
        have g1 : decide ((60 : Int) < (t.size : Int)) = false := by rw [decide_eq_false_iff_not]; omega
        go_wp2_with fail
        go_meet
        exact ⟨rfl, (by repeat (first | with_reducible exact hB4 | with_reducible exact Below.refl _ _ | with_reducible refine below_set ?_ (by first | omega | (dsimp only; omega)) _ | with_reducible refine balloc ?_ _ | with_reducible refine Below.drew ?_ | with_reducible refine below_drewN ?_ _ | exact hB4 | exact Below.refl _ _ | refine balloc ?_ _ | refine Below.drew ?_ | refine below_drewN ?_ _ | refine below_set ?_ (by first | omega | (dsimp only; omega)) _)), (by first | with_reducible assumption | omega | (simp only [World.heap_drewN, World.size_alloc, World.size_setCell, World.size_drew]; omega)), (by first | with_reducible assumption | omega | (simp only [World.heap_drewN, World.size_alloc, World.size_setCell, World.size_drew]; omega)), (by first | with_reducible assumption | omega | (simp only [World.heap_drewN, World.size_alloc, World.size_setCell, World.size_drew]; omega)), (by first | with_reducible assumption | omega | (simp only [World.heap_drewN, World.size_alloc, World.size_setCell, World.size_drew]; omega)), (by first | with_reducible assumption | omega | (simp only [World.heap_drewN, World.size_alloc, World.size_setCell, World.size_drew]; omega)), (by first | with_reducible assumption | go_simp), (by first | with_reducible assumption | go_simp), (by first | with_reducible assumption | go_simp), (by first | with_reducible assumption | go_simp), (by first | with_reducible assumption | go_simp), (by first | with_reducible assumption | go_simp), (by first | with_reducible assumption | go_simp), (by first | with_reducible assumption | go_simp), (by first | with_reducible assumption | go_simp), (by first | with_reducible assumption | go_simp), (by first | with_reducible assumption | go_simp), (by first | with_reducible assumption | go_simp), (by first | with_reducible assumption | go_simp), (by first | with_reducible assumption | go_simp), (by first | with_reducible assumption | go_simp), (by first | with_reducible assumption | go_simp), (by first | with_reducible assumption | go_simp), (by first | with_reducible assumption | go_simp), (by first | with_reducible assumption | go_simp), (by first | with_reducible assumption | go_simp), (by first | with_reducible assumption | go_simp)⟩
    case rest =>
      obtain ⟨w5, hwq⟩ : ∃ x, x = wc := ⟨_, rfl⟩
      subst hwq
      obtain ⟨rfl, hB5, s5_0, s5_1, s5_2, s5_3, s5_4, m5_0_0, m5_0_1, m5_0_2, m5_1_0, m5_1_1, m5_1_2, m5_2_0, m5_2_1, m5_2_2, m5_3_0, m5_3_1, m5_3_2, m5_4_0, m5_4_1, m5_4_2, y5_0_0, y5_0_1, y5_0_2, y5_1_0, y5_1_1, y5_1_2⟩ := hcut
      clear m4_0_0 m4_0_1 m4_0_2 m4_1_0 m4_1_1 m4_1_2 m4_2_0 m4_2_1 m4_2_2 m4_3_0 m4_3_1 m4_3_2
      clear z4 hB4 y4_0_0 y4_0_1 y4_0_2 y4_1_0 y4_1_1 y4_1_2
      clear h2
      go_upto_if 58 with fail
      go_cut [13] from 58 to 61 (fun s13 wx => s13 = .int .i64 E2b ∧ Below w.heap.size w wx ∧ w.heap.size < wx.heap.size ∧ w.heap.size + 1 < wx.heap.size ∧ w.heap.size + 1 + 1 < wx.heap.size ∧ w2.heap.size < wx.heap.size ∧ w4.heap.size < wx.heap.size ∧ wx.cell? ⟨w.heap.size, 0, none⟩ = some (.int .i64 key.x) ∧ wx.cell? ⟨w.heap.size, 1, none⟩ = some (.int .i64 key.y) ∧ wx.cell? ⟨w.heap.size, 2, none⟩ = some (.bool key.far) ∧ wx.cell? ⟨w.heap.size + 1, 0, none⟩ = some (.int .i64 sig.x) ∧ wx.cell? ⟨w.heap.size + 1, 1, none⟩ = some (.int .i64 sig.y) ∧ wx.cell? ⟨w.heap.size + 1, 2, none⟩ = some (.bool sig.far) ∧ wx.cell? ⟨w.heap.size + 1 + 1, 0, none⟩ = some (.int .i64 W1.x) ∧ wx.cell? ⟨w.heap.size + 1 + 1, 1, none⟩ = some (.int .i64 W1.y) ∧ wx.cell? ⟨w.heap.size + 1 + 1, 2, none⟩ = some (.bool W1.far) ∧ wx.cell? ⟨w2.heap.size, 0, none⟩ = some (.int .i64 W1.x) ∧ wx.cell? ⟨w2.heap.size, 1, none⟩ = some (.int .i64 W1.y) ∧ wx.cell? ⟨w2.heap.size, 2, none⟩ = some (.bool W1.far) ∧ wx.cell? ⟨w4.heap.size, 0, none⟩ = some (.int .i64 (⟨1189, 3667, false⟩ : Sp).x) ∧ wx.cell? ⟨w4.heap.size, 1, none⟩ = some (.int .i64 (⟨1189, 3667, false⟩ : Sp).y) ∧ wx.cell? ⟨w4.heap.size, 2, none⟩ = some (.bool (⟨1189, 3667, false⟩ : Sp).far) ∧ wx.frozen? ⟨w.heap.size + 1 + 1, 0, none⟩ = false ∧ wx.frozen? ⟨w.heap.size + 1 + 1, 1, none⟩ = false ∧ wx.frozen? ⟨w.heap.size + 1 + 1, 2, none⟩ = false ∧ wx.frozen? ⟨w2.heap.size, 0, none⟩ = false ∧ wx.frozen? ⟨w2.heap.size, 1, none⟩ = false ∧ wx.frozen? ⟨w2.heap.size, 2, none⟩ = false)
      case first =>
        rcases h3.out with ⟨e1, e2⟩ | ⟨e1, e2⟩
        · subst e1
          replace e2 := Lib.hid e2
          clear h3
          go_wp2_with fail
          refine (e2.out _ (by repeat (first | with_reducible exact hB5 | with_reducible exact Below.refl _ _ | with_reducible refine below_set ?_ (by first | omega | (dsimp only; omega)) _ | with_reducible refine balloc ?_ _ | with_reducible refine Below.drew ?_ | with_reducible refine below_drewN ?_ _ | exact hB5 | exact Below.refl _ _ | refine balloc ?_ _ | refine Below.drew ?_ | refine below_drewN ?_ _ | refine below_set ?_ (by first | omega | (dsimp only; omega)) _))).mono ?_; rintro e w6 ⟨rfl, hb⟩
          obtain ⟨hc6, hf6⟩ := bcell hb
          have z6 := hb.size
          try simp only [World.size_alloc, World.size_setCell, World.size_drew] at z6
          have s6_0 : w.heap.size < w6.heap.size := by omega
          have s6_1 : w.heap.size + 1 < w6.heap.size := by omega
          have s6_2 : w.heap.size + 1 + 1 < w6.heap.size := by omega
          have s6_3 : w2.heap.size < w6.heap.size := by omega
          have s6_4 : w4.heap.size < w6.heap.size := by omega
          have hB6 : Below w.heap.size w w6 := below_seq (by repeat (first | with_reducible exact hB5 | with_reducible exact Below.refl _ _ | with_reducible refine below_set ?_ (by first | omega | (dsimp only; omega)) _ | with_reducible refine balloc ?_ _ | with_reducible refine Below.drew ?_ | with_reducible refine below_drewN ?_ _ | exact hB5 | exact Below.refl _ _ | refine balloc ?_ _ | refine Below.drew ?_ | refine below_drewN ?_ _ | refine below_set ?_ (by first | omega | (dsimp only; omega)) _)) hb
          clear hb
          have m6_0_0 : w6.cell? ⟨w.heap.size, 0, none⟩ = some (.int .i64 key.x) := by go_simp
          have m6_0_1 : w6.cell? ⟨w.heap.size, 1, none⟩ = some (.int .i64 key.y) := by go_simp
          have m6_0_2 : w6.cell? ⟨w.heap.size, 2, none⟩ = some (.bool key.far) := by go_simp
          have m6_1_0 : w6.cell? ⟨w.heap.size + 1, 0, none⟩ = some (.int .i64 sig.x) := by go_simp
          have m6_1_1 : w6.cell? ⟨w.heap.size + 1, 1, none⟩ = some (.int .i64 sig.y) := by go_simp
          have m6_1_2 : w6.cell? ⟨w.heap.size + 1, 2, none⟩ = some (.bool sig.far) := by go_simp
          have m6_2_0 : w6.cell? ⟨w.heap.size + 1 + 1, 0, none⟩ = some (.int .i64 W1.x) := by go_simp
          have m6_2_1 : w6.cell? ⟨w.heap.size + 1 + 1, 1, none⟩ = some (.int .i64 W1.y) := by go_simp
          have m6_2_2 : w6.cell? ⟨w.heap.size + 1 + 1, 2, none⟩ = some (.bool W1.far) := by go_simp
          have m6_3_0 : w6.cell? ⟨w2.heap.size, 0, none⟩ = some (.int .i64 W1.x) := by go_simp
          have m6_3_1 : w6.cell? ⟨w2.heap.size, 1, none⟩ = some (.int .i64 W1.y) := by go_simp
          have m6_3_2 : w6.cell? ⟨w2.heap.size, 2, none⟩ = some (.bool W1.far) := by go_simp
          have m6_4_0 : w6.cell? ⟨w4.heap.size, 0, none⟩ = some (.int .i64 (⟨1189, 3667, false⟩ : Sp).x) := by go_simp
          have m6_4_1 : w6.cell? ⟨w4.heap.size, 1, none⟩ = some (.int .i64 (⟨1189, 3667, false⟩ : Sp).y) := by go_simp
          have m6_4_2 : w6.cell? ⟨w4.heap.size, 2, none⟩ = some (.bool (⟨1189, 3667, false⟩ : Sp).far) := by go_simp
          clear m5_0_0 m5_0_1 m5_0_2 m5_1_0 m5_1_1 m5_1_2 m5_2_0 m5_2_1 m5_2_2 m5_3_0 m5_3_1 m5_3_2 m5_4_0 m5_4_1 m5_4_2
          clear hc6
          have y6_0_0 : w6.frozen? ⟨w.heap.size + 1 + 1, 0, none⟩ = false := by go_simp
          have y6_0_1 : w6.frozen? ⟨w.heap.size + 1 + 1, 1, none⟩ = false := by go_simp
          have y6_0_2 : w6.frozen? ⟨w.heap.size + 1 + 1, 2, none⟩ = false := by go_simp
          have y6_1_0 : w6.frozen? ⟨w2.heap.size, 0, none⟩ = false := by go_simp
          have y6_1_1 : w6.frozen? ⟨w2.heap.size, 1, none⟩ = false := by go_simp
          have y6_1_2 : w6.frozen? ⟨w2.heap.size, 2, none⟩ = false := by go_simp
          clear hB5 s5_0 s5_1 s5_2 s5_3 s5_4 y5_0_0 y5_0_1 y5_0_2 y5_1_0 y5_1_1 y5_1_2 hf6
          go_wp2_with fail
          go_meet
          exact ⟨rfl, (by repeat (first | with_reducible exact hB6 | with_reducible exact Below.refl _ _ | with_reducible refine below_set ?_ (by first | omega | (dsimp only; omega)) _ | with_reducible refine balloc ?_ _ | with_reducible refine Below.drew ?_ | with_reducible refine below_drewN ?_ _ | exact hB6 | exact Below.refl _ _ | refine balloc ?_ _ | refine Below.drew ?_ | refine below_drewN ?_ _ | refine below_set ?_ (by first | omega | (dsimp only; omega)) _)), (by first | with_reducible assumption | omega | (simp only [World.heap_drewN, World.size_alloc, World.size_setCell, World.size_drew]; omega)), (by first | with_reducible assumption | omega | (simp only [World.heap_drewN, World.size_alloc, World.size_setCell, World.size_drew]; omega)), (by first | with_reducible assumption | omega | (simp only [World.heap_drewN, World.size_alloc, World.size_setCell, World.size_drew]; omega)), (by first | with_reducible assumption | omega | (simp only [World.heap_drewN, World.size_alloc, World.size_setCell, World.size_drew]; omega)), (by first | with_reducible assumption | omega | (simp only [World.heap_drewN, World.size_alloc, World.size_setCell, World.size_drew]; omega)), (by first | with_reducible assumption | go_simp), (by first | with_reducible assumption | go_simp), (by first | with_reducible assumption | go_simp), (by first | with_reducible assumption | go_simp), (by first | with_reducible assumption | go_simp), (by first | with_reducible assumption | go_simp), (by first | with_reducible assumption | go_simp), (by first | with_reducible assumption | go_simp), (by first | with_reducible assumption | go_simp), (by first | with_reducible assumption | go_simp), (by first | with_reducible assumption | go_simp), (by first | with_reducible assumption | go_simp), (by first | with_reducible assumption | go_simp), (by first | with_reducible assumption | go_simp), (by first | with_reducible assumption | go_simp), (by first | with_reducible assumption | go_simp), (by first | with_reducible assumption | go_simp), (by first | with_reducible assumption | go_simp), (by first | with_reducible assumption | go_simp), (by first | with_reducible assumption | go_simp), (by first | with_reducible assumption | go_simp)⟩
        · subst e2
          clear h3
          go_wp2_with fail
          go_meet
          exact ⟨rfl, (by repeat (first | with_reducible exact hB5 | with_reducible exact Below.refl _ _ | with_reducible refine below_set ?_ (by first | omega | (dsimp only; omega)) _ | with_reducible refine balloc ?_ _ | with_reducible refine Below.drew ?_ | with_reducible refine below_drewN ?_ _ | exact hB5 | exact Below.refl _ _ | refine balloc ?_ _ | refine Below.drew ?_ | refine below_drewN ?_ _ | refine below_set ?_ (by first | omega | (dsimp only; omega)) _)), (by first | with_reducible assumption | omega | (simp only [World.heap_drewN, World.size_alloc, World.size_setCell, World.size_drew]; omega)), (by first | with_reducible assumption | omega | (simp only [World.heap_drewN, World.size_alloc, World.size_setCell, World.size_drew]; omega)), (by first | with_reducible assumption | omega | (simp only [World.heap_drewN, World.size_alloc, World.size_setCell, World.size_drew]; omega)), (by first | with_reducible assumption | omega | (simp only [World.heap_drewN, World.size_alloc, World.size_setCell, World.size_drew]; omega)), (by first | with_reducible assumption | omega | (simp only [World.heap_drewN, World.size_alloc, World.size_setCell, World.size_drew]; omega)), (by first | with_reducible assumption | go_simp), (by first | with_reducible assumption | go_simp), (by first | with_reducible assumption | go_simp), (by first | with_reducible assumption | go_simp), (by first | with_reducible assumption | go_simp), (by first | with_reducible assumption | go_simp), (by first | with_reducible assumption | go_simp), (by first | with_reducible assumption | go_simp), (by first | with_reducible assumption | go_simp), (by first | with_reducible assumption | go_simp), (by first | with_reducible assumption | go_simp), (by first | with_reducible assumption | go_simp), (by first | with_reducible assumption | go_simp), (by first | with_reducible assumption | go_simp), (by first | with_reducible assumption | go_simp), (by first | with_reducible assumption | go_simp), (by first | with_reducible assumption | go_simp), (by first | with_reducible assumption | go_simp), (by first | with_reducible assumption | go_simp), (by first | with_reducible assumption | go_simp), (by first | with_reducible assumption | go_simp)⟩
      case rest =>
        obtain ⟨w6, hwq⟩ : ∃ x, x = wc := ⟨_, rfl⟩
        subst hwq
        obtain ⟨rfl, hB6, s6_0, s6_1, s6_2, s6_3, s6_4, m6_0_0, m6_0_1, m6_0_2, m6_1_0, m6_1_1, m6_1_2, m6_2_0, m6_2_1, m6_2_2, m6_3_0, m6_3_1, m6_3_2, m6_4_0, m6_4_1, m6_4_2, y6_0_0, y6_0_1, y6_0_2, y6_1_0, y6_1_1, y6_1_2⟩ := hcut
        clear m5_0_0 m5_0_1 m5_0_2 m5_1_0 m5_1_1 m5_1_2 m5_2_0 m5_2_1 m5_2_2 m5_3_0 m5_3_1 m5_3_2 m5_4_0 m5_4_1 m5_4_2
        clear hB5 s5_0 s5_1 s5_2 s5_3 s5_4 y5_0_0 y5_0_1 y5_0_2 y5_1_0 y5_1_1 y5_1_2
        clear h3
        go_upto_if 63 with fail
        go_cut [13] from 63 to 67 (fun s13 wx => s13 = .int .i64 E2 ∧ Below w.heap.size w wx ∧ w.heap.size < wx.heap.size ∧ w.heap.size + 1 < wx.heap.size ∧ w.heap.size + 1 + 1 < wx.heap.size ∧ w2.heap.size < wx.heap.size ∧ w4.heap.size < wx.heap.size ∧ wx.cell? ⟨w.heap.size, 0, none⟩ = some (.int .i64 key.x) ∧ wx.cell? ⟨w.heap.size, 1, none⟩ = some (.int .i64 key.y) ∧ wx.cell? ⟨w.heap.size, 2, none⟩ = some (.bool key.far) ∧ wx.cell? ⟨w.heap.size + 1, 0, none⟩ = some (.int .i64 sig.x) ∧ wx.cell? ⟨w.heap.size + 1, 1, none⟩ = some (.int .i64 sig.y) ∧ wx.cell? ⟨w.heap.size + 1, 2, none⟩ = some (.bool sig.far) ∧ wx.cell? ⟨w.heap.size + 1 + 1, 0, none⟩ = some (.int .i64 W1.x) ∧ wx.cell? ⟨w.heap.size + 1 + 1, 1, none⟩ = some (.int .i64 W1.y) ∧ wx.cell? ⟨w.heap.size + 1 + 1, 2, none⟩ = some (.bool W1.far) ∧ wx.cell? ⟨w2.heap.size, 0, none⟩ = some (.int .i64 W1.x) ∧ wx.cell? ⟨w2.heap.size, 1, none⟩ = some (.int .i64 W1.y) ∧ wx.cell? ⟨w2.heap.size, 2, none⟩ = some (.bool W1.far) ∧ wx.cell? ⟨w4.heap.size, 0, none⟩ = some (.int .i64 (⟨1189, 3667, false⟩ : Sp).x) ∧ wx.cell? ⟨w4.heap.size, 1, none⟩ = some (.int .i64 (⟨1189, 3667, false⟩ : Sp).y) ∧ wx.cell? ⟨w4.heap.size, 2, none⟩ = some (.bool (⟨1189, 3667, false⟩ : Sp).far) ∧ wx.frozen? ⟨w.heap.size + 1 + 1, 0, none⟩ = false ∧ wx.frozen? ⟨w.heap.size + 1 + 1, 1, none⟩ = false ∧ wx.frozen? ⟨w.heap.size + 1 + 1, 2, none⟩ = false ∧ wx.frozen? ⟨w2.heap.size, 0, none⟩ = false ∧ wx.frozen? ⟨w2.heap.size, 1, none⟩ = false ∧ wx.frozen? ⟨w2.heap.size, 2, none⟩ = false)
        case first =>
          rcases h4.out with ⟨e1, e2⟩ | ⟨e1, e2⟩
          · subst e1
            replace e2 := Lib.hid e2
            clear h4
            go_wp2_with fail
            refine wp_region_grow Tryd.mixed (by kernel_rfl) ?_
            repeat (quiet_step ((first | (go_at_call 70; exact grow_of (kOf.out _ (below_seq (by repeat (first | with_reducible exact hB6 | with_reducible exact Below.refl _ _ | with_reducible refine below_set ?_ (by first | omega | (dsimp only; omega)) _ | with_reducible refine balloc ?_ _ | with_reducible refine Below.drew ?_ | with_reducible refine below_drewN ?_ _ | exact hB6 | exact Below.refl _ _ | refine balloc ?_ _ | refine Below.drew ?_ | refine below_drewN ?_ _ | refine below_set ?_ (by first | omega | (dsimp only; omega)) _)) (Grew.h _)))) | (go_at_call 18; exact grow_of (e2.out _ (below_seq (by repeat (first | with_reducible exact hB6 | with_reducible exact Below.refl _ _ | with_reducible refine below_set ?_ (by first | omega | (dsimp only; omega)) _ | with_reducible refine balloc ?_ _ | with_reducible refine Below.drew ?_ | with_reducible refine below_drewN ?_ _ | exact hB6 | exact Below.refl _ _ | refine balloc ?_ _ | refine Below.drew ?_ | refine below_drewN ?_ _ | refine below_set ?_ (by first | omega | (dsimp only; omega)) _)) (Grew.h _)))))))
            refine wpQuiet_nil ?_
            intro _ hw'
            obtain ⟨x7, rfl⟩ := hw'
            have z7 := x7.h.size
            try simp only [World.size_alloc, World.size_setCell, World.size_drew] at z7
            have s7_0 : w.heap.size < x7.w.heap.size := by omega
            have s7_1 : w.heap.size + 1 < x7.w.heap.size := by omega
            have s7_2 : w.heap.size + 1 + 1 < x7.w.heap.size := by omega
            have s7_3 : w2.heap.size < x7.w.heap.size := by omega
            have s7_4 : w4.heap.size < x7.w.heap.size := by omega
            have hB7 : Below w.heap.size w x7.w := below_seq (by repeat (first | with_reducible exact hB6 | with_reducible exact Below.refl _ _ | with_reducible refine below_set ?_ (by first | omega | (dsimp only; omega)) _ | with_reducible refine balloc ?_ _ | with_reducible refine Below.drew ?_ | with_reducible refine below_drewN ?_ _ | exact hB6 | exact Below.refl _ _ | refine balloc ?_ _ | refine Below.drew ?_ | refine below_drewN ?_ _ | refine below_set ?_ (by first | omega | (dsimp only; omega)) _)) x7.h
            have m7_0_0 : x7.w.cell? ⟨w.heap.size, 0, none⟩ = some (.int .i64 key.x) := by go_simp
            have m7_0_1 : x7.w.cell? ⟨w.heap.size, 1, none⟩ = some (.int .i64 key.y) := by go_simp
            have m7_0_2 : x7.w.cell? ⟨w.heap.size, 2, none⟩ = some (.bool key.far) := by go_simp
            have m7_1_0 : x7.w.cell? ⟨w.heap.size + 1, 0, none⟩ = some (.int .i64 sig.x) := by go_simp
            have m7_1_1 : x7.w.cell? ⟨w.heap.size + 1, 1, none⟩ = some (.int .i64 sig.y) := by go_simp
            have m7_1_2 : x7.w.cell? ⟨w.heap.size + 1, 2, none⟩ = some (.bool sig.far) := by go_simp
            have m7_2_0 : x7.w.cell? ⟨w.heap.size + 1 + 1, 0, none⟩ = some (.int .i64 W1.x) := by go_simp
            have m7_2_1 : x7.w.cell? ⟨w.heap.size + 1 + 1, 1, none⟩ = some (.int .i64 W1.y) := by go_simp
            have m7_2_2 : x7.w.cell? ⟨w.heap.size + 1 + 1, 2, none⟩ = some (.bool W1.far) := by go_simp
            have m7_3_0 : x7.w.cell? ⟨w2.heap.size, 0, none⟩ = some (.int .i64 W1.x) := by go_simp
            have m7_3_1 : x7.w.cell? ⟨w2.heap.size, 1, none⟩ = some (.int .i64 W1.y) := by go_simp
            have m7_3_2 : x7.w.cell? ⟨w2.heap.size, 2, none⟩ = some (.bool W1.far) := by go_simp
            have m7_4_0 : x7.w.cell? ⟨w4.heap.size, 0, none⟩ = some (.int .i64 (⟨1189, 3667, false⟩ : Sp).x) := by go_simp
            have m7_4_1 : x7.w.cell? ⟨w4.heap.size, 1, none⟩ = some (.int .i64 (⟨1189, 3667, false⟩ : Sp).y) := by go_simp
            have m7_4_2 : x7.w.cell? ⟨w4.heap.size, 2, none⟩ = some (.bool (⟨1189, 3667, false⟩ : Sp).far) := by go_simp
            clear m6_0_0 m6_0_1 m6_0_2 m6_1_0 m6_1_1 m6_1_2 m6_2_0 m6_2_1 m6_2_2 m6_3_0 m6_3_1 m6_3_2 m6_4_0 m6_4_1 m6_4_2
            obtain ⟨-, hf7⟩ := bcell x7.h
            have y7_0_0 : x7.w.frozen? ⟨w.heap.size + 1 + 1, 0, none⟩ = false := by go_simp
            have y7_0_1 : x7.w.frozen? ⟨w.heap.size + 1 + 1, 1, none⟩ = false := by go_simp
            have y7_0_2 : x7.w.frozen? ⟨w.heap.size + 1 + 1, 2, none⟩ = false := by go_simp
            have y7_1_0 : x7.w.frozen? ⟨w2.heap.size, 0, none⟩ = false := by go_simp
            have y7_1_1 : x7.w.frozen? ⟨w2.heap.size, 1, none⟩ = false := by go_simp
            have y7_1_2 : x7.w.frozen? ⟨w2.heap.size, 2, none⟩ = false := by go_simp
            clear hB6 s6_0 s6_1 s6_2 s6_3 s6_4 y6_0_0 y6_0_1 y6_0_2 y6_1_0 y6_1_1 y6_1_2 hf7
            go_wp2_with fail
            go_meet
            exact ⟨rfl, (by repeat (first | with_reducible exact hB7 | with_reducible exact Below.refl _ _ | with_reducible refine below_set ?_ (by first | omega | (dsimp only; omega)) _ | with_reducible refine balloc ?_ _ | with_reducible refine Below.drew ?_ | with_reducible refine below_drewN ?_ _ | exact hB7 | exact Below.refl _ _ | refine balloc ?_ _ | refine Below.drew ?_ | refine below_drewN ?_ _ | refine below_set ?_ (by first | omega | (dsimp only; omega)) _)), (by first | with_reducible assumption | omega | (simp only [World.heap_drewN, World.size_alloc, World.size_setCell, World.size_drew]; omega)), (by first | with_reducible assumption | omega | (simp only [World.heap_drewN, World.size_alloc, World.size_setCell, World.size_drew]; omega)), (by first | with_reducible assumption | omega | (simp only [World.heap_drewN, World.size_alloc, World.size_setCell, World.size_drew]; omega)), (by first | with_reducible assumption | omega | (simp only [World.heap_drewN, World.size_alloc, World.size_setCell, World.size_drew]; omega)), (by first | with_reducible assumption | omega | (simp only [World.heap_drewN, World.size_alloc, World.size_setCell, World.size_drew]; omega)), (by first | with_reducible assumption | go_simp), (by first | with_reducible assumption | go_simp), (by first | with_reducible assumption | go_simp), (by first | with_reducible assumption | go_simp), (by first | with_reducible assumption | go_simp), (by first | with_reducible assumption | go_simp), (by first | with_reducible assumption | go_simp), (by first | with_reducible assumption | go_simp), (by first | with_reducible assumption | go_simp), (by first | with_reducible assumption | go_simp), (by first | with_reducible assumption | go_simp), (by first | with_reducible assumption | go_simp), (by first | with_reducible assumption | go_simp), (by first | with_reducible assumption | go_simp), (by first | with_reducible assumption | go_simp), (by first | with_reducible assumption | go_simp), (by first | with_reducible assumption | go_simp), (by first | with_reducible assumption | go_simp), (by first | with_reducible assumption | go_simp), (by first | with_reducible assumption | go_simp), (by first | with_reducible assumption | go_simp)⟩
          · subst e2
            clear h4
            go_wp2_with fail
            go_meet
            exact ⟨rfl, (by repeat (first | with_reducible exact hB6 | with_reducible exact Below.refl _ _ | with_reducible refine below_set ?_ (by first | omega | (dsimp only; omega)) _ | with_reducible refine balloc ?_ _ | with_reducible refine Below.drew ?_ | with_reducible refine below_drewN ?_ _ | exact hB6 | exact Below.refl _ _ | refine balloc ?_ _ | refine Below.drew ?_ | refine below_drewN ?_ _ | refine below_set ?_ (by first | omega | (dsimp only; omega)) _)), (by first | with_reducible assumption | omega | (simp only [World.heap_drewN, World.size_alloc, World.size_setCell, World.size_drew]; omega)), (by first | with_reducible assumption | omega | (simp only [World.heap_drewN, World.size_alloc, World.size_setCell, World.size_drew]; omega)), (by first | with_reducible assumption | omega | (simp only [World.heap_drewN, World.size_alloc, World.size_setCell, World.size_drew]; omega)), (by first | with_reducible assumption | omega | (simp only [World.heap_drewN, World.size_alloc, World.size_setCell, World.size_drew]; omega)), (by first | with_reducible assumption | omega | (simp only [World.heap_drewN, World.size_alloc, World.size_setCell, World.size_drew]; omega)), (by first | with_reducible assumption | go_simp), (by first | with_reducible assumption | go_simp), (by first | with_reducible assumption | go_simp), (by first | with_reducible assumption | go_simp), (by first | with_reducible assumption | go_simp), (by first | with_reducible assumption | go_simp), (by first | with_reducible assumption | go_simp), (by first | with_reducible assumption | go_simp), (by first | with_reducible assumption | go_simp), (by first | with_reducible assumption | go_simp), (by first | with_reducible assumption | go_simp), (by first | with_reducible assumption | go_simp), (by first | with_reducible assumption | go_simp), (by first | with_reducible assumption | go_simp), (by first | with_reducible assumption | go_simp), (by first | with_reducible assumption | go_simp), (by first | with_reducible assumption | go_simp), (by first | with_reducible assumption | go_simp), (by first | with_reducible assumption | go_simp), (by first | with_reducible assumption | go_simp), (by first | with_reducible assumption | go_simp)⟩
        case rest =>
          obtain ⟨w7, hwq⟩ : ∃ x, x = wc := ⟨_, rfl⟩
          subst hwq
          obtain ⟨rfl, hB7, s7_0, s7_1, s7_2, s7_3, s7_4, m7_0_0, m7_0_1, m7_0_2, m7_1_0, m7_1_1, m7_1_2, m7_2_0, m7_2_1, m7_2_2, m7_3_0, m7_3_1, m7_3_2, m7_4_0, m7_4_1, m7_4_2, y7_0_0, y7_0_1, y7_0_2, y7_1_0, y7_1_1, y7_1_2⟩ := hcut
          clear m6_0_0 m6_0_1 m6_0_2 m6_1_0 m6_1_1 m6_1_2 m6_2_0 m6_2_1 m6_2_2 m6_3_0 m6_3_1 m6_3_2 m6_4_0 m6_4_1 m6_4_2
          clear hB6 s6_0 s6_1 s6_2 s6_3 s6_4 y6_0_0 y6_0_1 y6_0_2 y6_1_0 y6_1_1 y6_1_2
          clear h4
          go_upto_region 19 with fail
          go_cut [20] from 68 to 79 (fun s20 wx => s20 = .bool B20 ∧ Below w.heap.size w wx ∧ w.heap.size < wx.heap.size ∧ w.heap.size + 1 < wx.heap.size ∧ w.heap.size + 1 + 1 < wx.heap.size ∧ w2.heap.size < wx.heap.size ∧ w4.heap.size < wx.heap.size ∧ wx.cell? ⟨w.heap.size, 0, none⟩ = some (.int .i64 key.x) ∧ wx.cell? ⟨w.heap.size, 1, none⟩ = some (.int .i64 key.y) ∧ wx.cell? ⟨w.heap.size, 2, none⟩ = some (.bool key.far) ∧ wx.cell? ⟨w.heap.size + 1, 0, none⟩ = some (.int .i64 sig.x) ∧ wx.cell? ⟨w.heap.size + 1, 1, none⟩ = some (.int .i64 sig.y) ∧ wx.cell? ⟨w.heap.size + 1, 2, none⟩ = some (.bool sig.far) ∧ wx.cell? ⟨w.heap.size + 1 + 1, 0, none⟩ = some (.int .i64 W1.x) ∧ wx.cell? ⟨w.heap.size + 1 + 1, 1, none⟩ = some (.int .i64 W1.y) ∧ wx.cell? ⟨w.heap.size + 1 + 1, 2, none⟩ = some (.bool W1.far) ∧ wx.cell? ⟨w2.heap.size, 0, none⟩ = some (.int .i64 W1.x) ∧ wx.cell? ⟨w2.heap.size, 1, none⟩ = some (.int .i64 W1.y) ∧ wx.cell? ⟨w2.heap.size, 2, none⟩ = some (.bool W1.far) ∧ wx.cell? ⟨w4.heap.size, 0, none⟩ = some (.int .i64 (⟨1189, 3667, false⟩ : Sp).x) ∧ wx.cell? ⟨w4.heap.size, 1, none⟩ = some (.int .i64 (⟨1189, 3667, false⟩ : Sp).y) ∧ wx.cell? ⟨w4.heap.size, 2, none⟩ = some (.bool (⟨1189, 3667, false⟩ : Sp).far) ∧ wx.frozen? ⟨w.heap.size + 1 + 1, 0, none⟩ = false ∧ wx.frozen? ⟨w.heap.size + 1 + 1, 1, none⟩ = false ∧ wx.frozen? ⟨w.heap.size + 1 + 1, 2, none⟩ = false ∧ wx.frozen? ⟨w2.heap.size, 0, none⟩ = false ∧ wx.frozen? ⟨w2.heap.size, 1, none⟩ = false ∧ wx.frozen? ⟨w2.heap.size, 2, none⟩ = false)
          case first =>
            rcases h5.out with ⟨e1, X0, X1, Y0, Y1, e2, e3, e4⟩ | ⟨e1, e2⟩
            · subst e1 e4
              replace e2 := Lib.hid e2
              replace e3 := Lib.hid e3
              clear h5
              go_wp2_with fail
              refine wp_region_grow Tryd.mixed (by kernel_rfl) ?_
              repeat (go_big_quiet_step ((first | (go_at_call 70; exact grow_of (kOf.out _ (below_seq (by repeat (first | with_reducible exact hB7 | with_reducible exact Below.refl _ _ | with_reducible refine below_set ?_ (by first | omega | (dsimp only; omega)) _ | with_reducible refine balloc ?_ _ | with_reducible refine Below.drew ?_ | with_reducible refine below_drewN ?_ _ | exact hB7 | exact Below.refl _ _ | refine balloc ?_ _ | refine Below.drew ?_ | refine below_drewN ?_ _ | refine below_set ?_ (by first | omega | (dsimp only; omega)) _)) (Grew.h _)))) | (go_at_call_of 19 sig.x; exact grow_of (e2.out _ (below_seq (by repeat (first | with_reducible exact hB7 | with_reducible exact Below.refl _ _ | with_reducible refine below_set ?_ (by first | omega | (dsimp only; omega)) _ | with_reducible refine balloc ?_ _ | with_reducible refine Below.drew ?_ | with_reducible refine below_drewN ?_ _ | exact hB7 | exact Below.refl _ _ | refine balloc ?_ _ | refine Below.drew ?_ | refine below_drewN ?_ _ | refine below_set ?_ (by first | omega | (dsimp only; omega)) _)) (Grew.h _)))) | (go_at_call 19; exact grow_of (e3.out _ (below_seq (by repeat (first | with_reducible exact hB7 | with_reducible exact Below.refl _ _ | with_reducible refine below_set ?_ (by first | omega | (dsimp only; omega)) _ | with_reducible refine balloc ?_ _ | with_reducible refine Below.drew ?_ | with_reducible refine below_drewN ?_ _ | exact hB7 | exact Below.refl _ _ | refine balloc ?_ _ | refine Below.drew ?_ | refine below_drewN ?_ _ | refine below_set ?_ (by first | omega | (dsimp only; omega)) _)) (Grew.h _)))))))
              refine wpQuiet_nil ?_
              intro _ hw'
              obtain ⟨x8, rfl⟩ := hw'
              have z8 := x8.h.size
              try simp only [World.size_alloc, World.size_setCell, World.size_drew] at z8
              have s8_0 : w.heap.size < x8.w.heap.size := by omega
              have s8_1 : w.heap.size + 1 < x8.w.heap.size := by omega
              have s8_2 : w.heap.size + 1 + 1 < x8.w.heap.size := by omega
              have s8_3 : w2.heap.size < x8.w.heap.size := by omega
              have s8_4 : w4.heap.size < x8.w.heap.size := by omega
              have hB8 : Below w.heap.size w x8.w := below_seq (by repeat (first | with_reducible exact hB7 | with_reducible exact Below.refl _ _ | with_reducible refine below_set ?_ (by first | omega | (dsimp only; omega)) _ | with_reducible refine balloc ?_ _ | with_reducible refine Below.drew ?_ | with_reducible refine below_drewN ?_ _ | exact hB7 | exact Below.refl _ _ | refine balloc ?_ _ | refine Below.drew ?_ | refine below_drewN ?_ _ | refine below_set ?_ (by first | omega | (dsimp only; omega)) _)) x8.h
              have m8_0_0 : x8.w.cell? ⟨w.heap.size, 0, none⟩ = some (.int .i64 key.x) := by go_simp
              have m8_0_1 : x8.w.cell? ⟨w.heap.size, 1, none⟩ = some (.int .i64 key.y) := by go_simp
              have m8_0_2 : x8.w.cell? ⟨w.heap.size, 2, none⟩ = some (.bool key.far) := by go_simp
              have m8_1_0 : x8.w.cell? ⟨w.heap.size + 1, 0, none⟩ = some (.int .i64 sig.x) := by go_simp
              have m8_1_1 : x8.w.cell? ⟨w.heap.size + 1, 1, none⟩ = some (.int .i64 sig.y) := by go_simp
              have m8_1_2 : x8.w.cell? ⟨w.heap.size + 1, 2, none⟩ = some (.bool sig.far) := by go_simp
              have m8_2_0 : x8.w.cell? ⟨w.heap.size + 1 + 1, 0, none⟩ = some (.int .i64 W1.x) := by go_simp
              have m8_2_1 : x8.w.cell? ⟨w.heap.size + 1 + 1, 1, none⟩ = some (.int .i64 W1.y) := by go_simp
              have m8_2_2 : x8.w.cell? ⟨w.heap.size + 1 + 1, 2, none⟩ = some (.bool W1.far) := by go_simp
              have m8_3_0 : x8.w.cell? ⟨w2.heap.size, 0, none⟩ = some (.int .i64 W1.x) := by go_simp
              have m8_3_1 : x8.w.cell? ⟨w2.heap.size, 1, none⟩ = some (.int .i64 W1.y) := by go_simp
              have m8_3_2 : x8.w.cell? ⟨w2.heap.size, 2, none⟩ = some (.bool W1.far) := by go_simp
              have m8_4_0 : x8.w.cell? ⟨w4.heap.size, 0, none⟩ = some (.int .i64 (⟨1189, 3667, false⟩ : Sp).x) := by go_simp
              have m8_4_1 : x8.w.cell? ⟨w4.heap.size, 1, none⟩ = some (.int .i64 (⟨1189, 3667, false⟩ : Sp).y) := by go_simp
              have m8_4_2 : x8.w.cell? ⟨w4.heap.size, 2, none⟩ = some (.bool (⟨1189, 3667, false⟩ : Sp).far) := by go_simp
              clear m7_0_0 m7_0_1 m7_0_2 m7_1_0 m7_1_1 m7_1_2 m7_2_0 m7_2_1 m7_2_2 m7_3_0 m7_3_1 m7_3_2 m7_4_0 m7_4_1 m7_4_2
              obtain ⟨-, hf8⟩ := bcell x8.h
              have y8_0_0 : x8.w.frozen? ⟨w.heap.size + 1 + 1, 0, none⟩ = false := by go_simp
              have y8_0_1 : x8.w.frozen? ⟨w.heap.size + 1 + 1, 1, none⟩ = false := by go_simp
              have y8_0_2 : x8.w.frozen? ⟨w.heap.size + 1 + 1, 2, none⟩ = false := by go_simp
              have y8_1_0 : x8.w.frozen? ⟨w2.heap.size, 0, none⟩ = false := by go_simp
              have y8_1_1 : x8.w.frozen? ⟨w2.heap.size, 1, none⟩ = false := by go_simp
              have y8_1_2 : x8.w.frozen? ⟨w2.heap.size, 2, none⟩ = false := by go_simp
              clear hB7 s7_0 s7_1 s7_2 s7_3 s7_4 y7_0_0 y7_0_1 y7_0_2 y7_1_0 y7_1_1 y7_1_2 hf8
              go_wp2_with fail
              go_meet
              exact ⟨rfl, (by repeat (first | with_reducible exact hB8 | with_reducible exact Below.refl _ _ | with_reducible refine below_set ?_ (by first | omega | (dsimp only; omega)) _ | with_reducible refine balloc ?_ _ | with_reducible refine Below.drew ?_ | with_reducible refine below_drewN ?_ _ | exact hB8 | exact Below.refl _ _ | refine balloc ?_ _ | refine Below.drew ?_ | refine below_drewN ?_ _ | refine below_set ?_ (by first | omega | (dsimp only; omega)) _)), (by first | with_reducible assumption | omega | (simp only [World.heap_drewN, World.size_alloc, World.size_setCell, World.size_drew]; omega)), (by first | with_reducible assumption | omega | (simp only [World.heap_drewN, World.size_alloc, World.size_setCell, World.size_drew]; omega)), (by first | with_reducible assumption | omega | (simp only [World.heap_drewN, World.size_alloc, World.size_setCell, World.size_drew]; omega)), (by first | with_reducible assumption | omega | (simp only [World.heap_drewN, World.size_alloc, World.size_setCell, World.size_drew]; omega)), (by first | with_reducible assumption | omega | (simp only [World.heap_drewN, World.size_alloc, World.size_setCell, World.size_drew]; omega)), (by first | with_reducible assumption | go_simp), (by first | with_reducible assumption | go_simp), (by first | with_reducible assumption | go_simp), (by first | with_reducible assumption | go_simp), (by first | with_reducible assumption | go_simp), (by first | with_reducible assumption | go_simp), (by first | with_reducible assumption | go_simp), (by first | with_reducible assumption | go_simp), (by first | with_reducible assumption | go_simp), (by first | with_reducible assumption | go_simp), (by first | with_reducible assumption | go_simp), (by first | with_reducible assumption | go_simp), (by first | with_reducible assumption | go_simp), (by first | with_reducible assumption | go_simp), (by first | with_reducible assumption | go_simp), (by first | with_reducible assumption | go_simp), (by first | with_reducible assumption | go_simp), (by first | with_reducible assumption | go_simp), (by first | with_reducible assumption | go_simp), (by first | with_reducible assumption | go_simp), (by first | with_reducible assumption | go_simp)⟩
            · subst e2
              clear h5
              go_wp2_with fail
              refine wp_region_grow Tryd.mixed (by kernel_rfl) ?_
              repeat (go_big_quiet_step ((fail)))
              refine wpQuiet_nil ?_
              intro _ hw'
              obtain ⟨x8, rfl⟩ := hw'
              have z8 := x8.h.size
              try simp only [World.size_alloc, World.size_setCell, World.size_drew] at z8
              have s8_0 : w.heap.size < x8.w.heap.size := by omega
              have s8_1 : w.heap.size + 1 < x8.w.heap.size := by omega
              have s8_2 : w.heap.size + 1 + 1 < x8.w.heap.size := by omega
              have s8_3 : w2.heap.size < x8.w.heap.size := by omega
              have s8_4 : w4.heap.size < x8.w.heap.size := by omega
              have hB8 : Below w.heap.size w x8.w := below_seq (by repeat (first | with_reducible exact hB7 | with_reducible exact Below.refl _ _ | with_reducible refine below_set ?_ (by first | omega | (dsimp only; omega)) _ | with_reducible refine balloc ?_ _ | with_reducible refine Below.drew ?_ | with_reducible refine below_drewN ?_ _ | exact hB7 | exact Below.refl _ _ | refine balloc ?_ _ | refine Below.drew ?_ | refine below_drewN ?_ _ | refine below_set ?_ (by first | omega | (dsimp only; omega)) _)) x8.h
              have m8_0_0 : x8.w.cell? ⟨w.heap.size, 0, none⟩ = some (.int .i64 key.x) := by go_simp
              have m8_0_1 : x8.w.cell? ⟨w.heap.size, 1, none⟩ = some (.int .i64 key.y) := by go_simp
              have m8_0_2 : x8.w.cell? ⟨w.heap.size, 2, none⟩ = some (.bool key.far) := by go_simp
              have m8_1_0 : x8.w.cell? ⟨w.heap.size + 1, 0, none⟩ = some (.int .i64 sig.x) := by go_simp
              have m8_1_1 : x8.w.cell? ⟨w.heap.size + 1, 1, none⟩ = some (.int .i64 sig.y) := by go_simp
              have m8_1_2 : x8.w.cell? ⟨w.heap.size + 1, 2, none⟩ = some (.bool sig.far) := by go_simp
              have m8_2_0 : x8.w.cell? ⟨w.heap.size + 1 + 1, 0, none⟩ = some (.int .i64 W1.x) := by go_simp
              have m8_2_1 : x8.w.cell? ⟨w.heap.size + 1 + 1, 1, none⟩ = some (.int .i64 W1.y) := by go_simp
              have m8_2_2 : x8.w.cell? ⟨w.heap.size + 1 + 1, 2, none⟩ = some (.bool W1.far) := by go_simp
              have m8_3_0 : x8.w.cell? ⟨w2.heap.size, 0, none⟩ = some (.int .i64 W1.x) := by go_simp
              have m8_3_1 : x8.w.cell? ⟨w2.heap.size, 1, none⟩ = some (.int .i64 W1.y) := by go_simp
              have m8_3_2 : x8.w.cell? ⟨w2.heap.size, 2, none⟩ = some (.bool W1.far) := by go_simp
              have m8_4_0 : x8.w.cell? ⟨w4.heap.size, 0, none⟩ = some (.int .i64 (⟨1189, 3667, false⟩ : Sp).x) := by go_simp
              have m8_4_1 : x8.w.cell? ⟨w4.heap.size, 1, none⟩ = some (.int .i64 (⟨1189, 3667, false⟩ : Sp).y) := by go_simp
              have m8_4_2 : x8.w.cell? ⟨w4.heap.size, 2, none⟩ = some (.bool (⟨1189, 3667, false⟩ : Sp).far) := by go_simp
              clear m7_0_0 m7_0_1 m7_0_2 m7_1_0 m7_1_1 m7_1_2 m7_2_0 m7_2_1 m7_2_2 m7_3_0 m7_3_1 m7_3_2 m7_4_0 m7_4_1 m7_4_2
              obtain ⟨-, hf8⟩ := bcell x8.h
              have y8_0_0 : x8.w.frozen? ⟨w.heap.size + 1 + 1, 0, none⟩ = false := by go_simp
              have y8_0_1 : x8.w.frozen? ⟨w.heap.size + 1 + 1, 1, none⟩ = false := by go_simp
              have y8_0_2 : x8.w.frozen? ⟨w.heap.size + 1 + 1, 2, none⟩ = false := by go_simp
              have y8_1_0 : x8.w.frozen? ⟨w2.heap.size, 0, none⟩ = false := by go_simp
              have y8_1_1 : x8.w.frozen? ⟨w2.heap.size, 1, none⟩ = false := by go_simp
              have y8_1_2 : x8.w.frozen? ⟨w2.heap.size, 2, none⟩ = false := by go_simp
              clear hB7 s7_0 s7_1 s7_2 s7_3 s7_4 y7_0_0 y7_0_1 y7_0_2 y7_1_0 y7_1_1 y7_1_2 hf8
              go_wp2_with fail
              go_meet
              exact ⟨rfl, (by repeat (first | with_reducible exact hB8 | with_reducible exact Below.refl _ _ | with_reducible refine below_set ?_ (by first | omega | (dsimp only; omega)) _ | with_reducible refine balloc ?_ _ | with_reducible refine Below.drew ?_ | with_reducible refine below_drewN ?_ _ | exact hB8 | exact Below.refl _ _ | refine balloc ?_ _ | refine Below.drew ?_ | refine below_drewN ?_ _ | refine below_set ?_ (by first | omega | (dsimp only; omega)) _)), (by first | with_reducible assumption | omega | (simp only [World.heap_drewN, World.size_alloc, World.size_setCell, World.size_drew]; omega)), (by first | with_reducible assumption | omega | (simp only [World.heap_drewN, World.size_alloc, World.size_setCell, World.size_drew]; omega)), (by first | with_reducible assumption | omega | (simp only [World.heap_drewN, World.size_alloc, World.size_setCell, World.size_drew]; omega)), (by first | with_reducible assumption | omega | (simp only [World.heap_drewN, World.size_alloc, World.size_setCell, World.size_drew]; omega)), (by first | with_reducible assumption | omega | (simp only [World.heap_drewN, World.size_alloc, World.size_setCell, World.size_drew]; omega)), (by first | with_reducible assumption | go_simp), (by first | with_reducible assumption | go_simp), (by first | with_reducible assumption | go_simp), (by first | with_reducible assumption | go_simp), (by first | with_reducible assumption | go_simp), (by first | with_reducible assumption | go_simp), (by first | with_reducible assumption | go_simp), (by first | with_reducible assumption | go_simp), (by first | with_reducible assumption | go_simp), (by first | with_reducible assumption | go_simp), (by first | with_reducible assumption | go_simp), (by first | with_reducible assumption | go_simp), (by first | with_reducible assumption | go_simp), (by first | with_reducible assumption | go_simp), (by first | with_reducible assumption | go_simp), (by first | with_reducible assumption | go_simp), (by first | with_reducible assumption | go_simp), (by first | with_reducible assumption | go_simp), (by first | with_reducible assumption | go_simp), (by first | with_reducible assumption | go_simp), (by first | with_reducible assumption | go_simp)⟩
          case rest =>
            obtain ⟨w8, hwq⟩ : ∃ x, x = wc := ⟨_, rfl⟩
            subst hwq
            obtain ⟨rfl, hB8, s8_0, s8_1, s8_2, s8_3, s8_4, m8_0_0, m8_0_1, m8_0_2, m8_1_0, m8_1_1, m8_1_2, m8_2_0, m8_2_1, m8_2_2, m8_3_0, m8_3_1, m8_3_2, m8_4_0, m8_4_1, m8_4_2, y8_0_0, y8_0_1, y8_0_2, y8_1_0, y8_1_1, y8_1_2⟩ := hcut
            clear m7_0_0 m7_0_1 m7_0_2 m7_1_0 m7_1_1 m7_1_2 m7_2_0 m7_2_1 m7_2_2 m7_3_0 m7_3_1 m7_3_2 m7_4_0 m7_4_1 m7_4_2
            clear hB7 s7_0 s7_1 s7_2 s7_3 s7_4 y7_0_0 y7_0_1 y7_0_2 y7_1_0 y7_1_1 y7_1_2
            clear h5
            go_wp2_with fail
            refine (kV.out _ (by repeat (first | with_reducible exact hB8 | with_reducible exact Below.refl _ _ | with_reducible refine below_set ?_ (by first | omega | (dsimp only; omega)) _ | with_reducible refine balloc ?_ _ | with_reducible refine Below.drew ?_ | with_reducible refine below_drewN ?_ _ | exact hB8 | exact Below.refl _ _ | refine balloc ?_ _ | refine Below.drew ?_ | refine below_drewN ?_ _ | refine below_set ?_ (by first | omega | (dsimp only; omega)) _))).mono ?_; rintro e w9 ⟨rfl, hb⟩
            obtain ⟨hc9, hf9⟩ := bcell hb
            have z9 := hb.size
            try simp only [World.size_alloc, World.size_setCell, World.size_drew] at z9
            have s9_0 : w.heap.size < w9.heap.size := by omega
            have s9_1 : w.heap.size + 1 < w9.heap.size := by omega
            have s9_2 : w.heap.size + 1 + 1 < w9.heap.size := by omega
            have s9_3 : w2.heap.size < w9.heap.size := by omega
            have s9_4 : w4.heap.size < w9.heap.size := by omega
            have hB9 : Below w.heap.size w w9 := below_seq (by repeat (first | with_reducible exact hB8 | with_reducible exact Below.refl _ _ | with_reducible refine below_set ?_ (by first | omega | (dsimp only; omega)) _ | with_reducible refine balloc ?_ _ | with_reducible refine Below.drew ?_ | with_reducible refine below_drewN ?_ _ | exact hB8 | exact Below.refl _ _ | refine balloc ?_ _ | refine Below.drew ?_ | refine below_drewN ?_ _ | refine below_set ?_ (by first | omega | (dsimp only; omega)) _)) hb
            clear hb
            have m9_0_0 : w9.cell? ⟨w.heap.size, 0, none⟩ = some (.int .i64 key.x) := by go_simp
            have m9_0_1 : w9.cell? ⟨w.heap.size, 1, none⟩ = some (.int .i64 key.y) := by go_simp
            have m9_0_2 : w9.cell? ⟨w.heap.size, 2, none⟩ = some (.bool key.far) := by go_simp
            have m9_1_0 : w9.cell? ⟨w.heap.size + 1, 0, none⟩ = some (.int .i64 sig.x) := by go_simp
            have m9_1_1 : w9.cell? ⟨w.heap.size + 1, 1, none⟩ = some (.int .i64 sig.y) := by go_simp
            have m9_1_2 : w9.cell? ⟨w.heap.size + 1, 2, none⟩ = some (.bool sig.far) := by go_simp
            have m9_2_0 : w9.cell? ⟨w.heap.size + 1 + 1, 0, none⟩ = some (.int .i64 W1.x) := by go_simp
            have m9_2_1 : w9.cell? ⟨w.heap.size + 1 + 1, 1, none⟩ = some (.int .i64 W1.y) := by go_simp
            have m9_2_2 : w9.cell? ⟨w.heap.size + 1 + 1, 2, none⟩ = some (.bool W1.far) := by go_simp
            have m9_3_0 : w9.cell? ⟨w2.heap.size, 0, none⟩ = some (.int .i64 W1.x) := by go_simp
            have m9_3_1 : w9.cell? ⟨w2.heap.size, 1, none⟩ = some (.int .i64 W1.y) := by go_simp
            have m9_3_2 : w9.cell? ⟨w2.heap.size, 2, none⟩ = some (.bool W1.far) := by go_simp
            have m9_4_0 : w9.cell? ⟨w4.heap.size, 0, none⟩ = some (.int .i64 (⟨1189, 3667, false⟩ : Sp).x) := by go_simp
            have m9_4_1 : w9.cell? ⟨w4.heap.size, 1, none⟩ = some (.int .i64 (⟨1189, 3667, false⟩ : Sp).y) := by go_simp
            have m9_4_2 : w9.cell? ⟨w4.heap.size, 2, none⟩ = some (.bool (⟨1189, 3667, false⟩ : Sp).far) := by go_simp
            clear m8_0_0 m8_0_1 m8_0_2 m8_1_0 m8_1_1 m8_1_2 m8_2_0 m8_2_1 m8_2_2 m8_3_0 m8_3_1 m8_3_2 m8_4_0 m8_4_1 m8_4_2
            clear hc9
            have y9_0_0 : w9.frozen? ⟨w.heap.size + 1 + 1, 0, none⟩ = false := by go_simp
            have y9_0_1 : w9.frozen? ⟨w.heap.size + 1 + 1, 1, none⟩ = false := by go_simp
            have y9_0_2 : w9.frozen? ⟨w.heap.size + 1 + 1, 2, none⟩ = false := by go_simp
            have y9_1_0 : w9.frozen? ⟨w2.heap.size, 0, none⟩ = false := by go_simp
            have y9_1_1 : w9.frozen? ⟨w2.heap.size, 1, none⟩ = false := by go_simp
            have y9_1_2 : w9.frozen? ⟨w2.heap.size, 2, none⟩ = false := by go_simp
            clear hB8 s8_0 s8_1 s8_2 s8_3 s8_4 y8_0_0 y8_0_1 y8_0_2 y8_1_0 y8_1_1 y8_1_2 hf9
            go_wp2_with fail
            refine (error_same (errV E2) E2 _ (hE.below (by repeat (first | with_reducible exact hB9 | with_reducible exact Below.refl _ _ | with_reducible refine below_set ?_ (by first | omega | (dsimp only; omega)) _ | with_reducible refine balloc ?_ _ | with_reducible refine Below.drew ?_ | with_reducible refine below_drewN ?_ _ | exact hB9 | exact Below.refl _ _ | refine balloc ?_ _ | refine Below.drew ?_ | refine below_drewN ?_ _ | refine below_set ?_ (by first | omega | (dsimp only; omega)) _))) (Lib.hid rfl)).mono ?_; rintro e w10 ⟨rfl, hb⟩
            obtain ⟨hc10, hf10⟩ := bcell hb
            have z10 := hb.size
            try simp only [World.size_alloc, World.size_setCell, World.size_drew] at z10
            have s10_0 : w.heap.size < w10.heap.size := by omega
            have s10_1 : w.heap.size + 1 < w10.heap.size := by omega
            have s10_2 : w.heap.size + 1 + 1 < w10.heap.size := by omega
            have s10_3 : w2.heap.size < w10.heap.size := by omega
            have s10_4 : w4.heap.size < w10.heap.size := by omega
            have hB10 : Below w.heap.size w w10 := below_seq (by repeat (first | with_reducible exact hB9 | with_reducible exact Below.refl _ _ | with_reducible refine below_set ?_ (by first | omega | (dsimp only; omega)) _ | with_reducible refine balloc ?_ _ | with_reducible refine Below.drew ?_ | with_reducible refine below_drewN ?_ _ | exact hB9 | exact Below.refl _ _ | refine balloc ?_ _ | refine Below.drew ?_ | refine below_drewN ?_ _ | refine below_set ?_ (by first | omega | (dsimp only; omega)) _)) hb
            clear hb
            have m10_0_0 : w10.cell? ⟨w.heap.size, 0, none⟩ = some (.int .i64 key.x) := by go_simp
            have m10_0_1 : w10.cell? ⟨w.heap.size, 1, none⟩ = some (.int .i64 key.y) := by go_simp
            have m10_0_2 : w10.cell? ⟨w.heap.size, 2, none⟩ = some (.bool key.far) := by go_simp
            have m10_1_0 : w10.cell? ⟨w.heap.size + 1, 0, none⟩ = some (.int .i64 sig.x) := by go_simp
            have m10_1_1 : w10.cell? ⟨w.heap.size + 1, 1, none⟩ = some (.int .i64 sig.y) := by go_simp
            have m10_1_2 : w10.cell? ⟨w.heap.size + 1, 2, none⟩ = some (.bool sig.far) := by go_simp
            have m10_2_0 : w10.cell? ⟨w.heap.size + 1 + 1, 0, none⟩ = some (.int .i64 W1.x) := by go_simp
            have m10_2_1 : w10.cell? ⟨w.heap.size + 1 + 1, 1, none⟩ = some (.int .i64 W1.y) := by go_simp
            have m10_2_2 : w10.cell? ⟨w.heap.size + 1 + 1, 2, none⟩ = some (.bool W1.far) := by go_simp
            have m10_3_0 : w10.cell? ⟨w2.heap.size, 0, none⟩ = some (.int .i64 W1.x) := by go_simp
            have m10_3_1 : w10.cell? ⟨w2.heap.size, 1, none⟩ = some (.int .i64 W1.y) := by go_simp
            have m10_3_2 : w10.cell? ⟨w2.heap.size, 2, none⟩ = some (.bool W1.far) := by go_simp
            have m10_4_0 : w10.cell? ⟨w4.heap.size, 0, none⟩ = some (.int .i64 (⟨1189, 3667, false⟩ : Sp).x) := by go_simp
            have m10_4_1 : w10.cell? ⟨w4.heap.size, 1, none⟩ = some (.int .i64 (⟨1189, 3667, false⟩ : Sp).y) := by go_simp
            have m10_4_2 : w10.cell? ⟨w4.heap.size, 2, none⟩ = some (.bool (⟨1189, 3667, false⟩ : Sp).far) := by go_simp
            clear m9_0_0 m9_0_1 m9_0_2 m9_1_0 m9_1_1 m9_1_2 m9_2_0 m9_2_1 m9_2_2 m9_3_0 m9_3_1 m9_3_2 m9_4_0 m9_4_1 m9_4_2
            clear hc10
            have y10_0_0 : w10.frozen? ⟨w.heap.size + 1 + 1, 0, none⟩ = false := by go_simp
            have y10_0_1 : w10.frozen? ⟨w.heap.size + 1 + 1, 1, none⟩ = false := by go_simp
            have y10_0_2 : w10.frozen? ⟨w.heap.size + 1 + 1, 2, none⟩ = false := by go_simp
            have y10_1_0 : w10.frozen? ⟨w2.heap.size, 0, none⟩ = false := by go_simp
            have y10_1_1 : w10.frozen? ⟨w2.heap.size, 1, none⟩ = false := by go_simp
            have y10_1_2 : w10.frozen? ⟨w2.heap.size, 2, none⟩ = false := by go_simp
            clear z9 hB9 s9_0 s9_1 s9_2 s9_3 s9_4 y9_0_0 y9_0_1 y9_0_2 y9_1_0 y9_1_1 y9_1_2 hf10
            clear kV kSg kOf
            go_wp2_with fail
            refine (kSp.out _ (by repeat (first | with_reducible exact hB10 | with_reducible exact Below.refl _ _ | with_reducible refine below_set ?_ (by first | omega | (dsimp only; omega)) _ | with_reducible refine balloc ?_ _ | with_reducible refine Below.drew ?_ | with_reducible refine below_drewN ?_ _ | exact hB10 | exact Below.refl _ _ | refine balloc ?_ _ | refine Below.drew ?_ | refine below_drewN ?_ _ | refine below_set ?_ (by first | omega | (dsimp only; omega)) _))).mono ?_; rintro e w11 ⟨rfl, hb⟩
            obtain ⟨hc11, hf11⟩ := bcell hb
            have z11 := hb.size
            try simp only [World.size_alloc, World.size_setCell, World.size_drew] at z11
            have s11_0 : w.heap.size < w11.heap.size := by omega
            have s11_1 : w.heap.size + 1 < w11.heap.size := by omega
            have s11_2 : w.heap.size + 1 + 1 < w11.heap.size := by omega
            have s11_3 : w2.heap.size < w11.heap.size := by omega
            have s11_4 : w4.heap.size < w11.heap.size := by omega
            have hB11 : Below w.heap.size w w11 := below_seq (by repeat (first | with_reducible exact hB10 | with_reducible exact Below.refl _ _ | with_reducible refine below_set ?_ (by first | omega | (dsimp only; omega)) _ | with_reducible refine balloc ?_ _ | with_reducible refine Below.drew ?_ | with_reducible refine below_drewN ?_ _ | exact hB10 | exact Below.refl _ _ | refine balloc ?_ _ | refine Below.drew ?_ | refine below_drewN ?_ _ | refine below_set ?_ (by first | omega | (dsimp only; omega)) _)) hb
            clear hb
            have m11_0_0 : w11.cell? ⟨w.heap.size + 1, 0, none⟩ = some (.int .i64 sig.x) := by go_simp
            have m11_0_1 : w11.cell? ⟨w.heap.size + 1, 1, none⟩ = some (.int .i64 sig.y) := by go_simp
            have m11_0_2 : w11.cell? ⟨w.heap.size + 1, 2, none⟩ = some (.bool sig.far) := by go_simp
            have m11_1_0 : w11.cell? ⟨w.heap.size + 1 + 1, 0, none⟩ = some (.int .i64 W1.x) := by go_simp
            have m11_1_1 : w11.cell? ⟨w.heap.size + 1 + 1, 1, none⟩ = some (.int .i64 W1.y) := by go_simp
            have m11_1_2 : w11.cell? ⟨w.heap.size + 1 + 1, 2, none⟩ = some (.bool W1.far) := by go_simp
            have m11_2_0 : w11.cell? ⟨w2.heap.size, 0, none⟩ = some (.int .i64 W1.x) := by go_simp
            have m11_2_1 : w11.cell? ⟨w2.heap.size, 1, none⟩ = some (.int .i64 W1.y) := by go_simp
            have m11_2_2 : w11.cell? ⟨w2.heap.size, 2, none⟩ = some (.bool W1.far) := by go_simp
            have m11_3_0 : w11.cell? ⟨w4.heap.size, 0, none⟩ = some (.int .i64 (⟨1189, 3667, false⟩ : Sp).x) := by go_simp
            have m11_3_1 : w11.cell? ⟨w4.heap.size, 1, none⟩ = some (.int .i64 (⟨1189, 3667, false⟩ : Sp).y) := by go_simp
            have m11_3_2 : w11.cell? ⟨w4.heap.size, 2, none⟩ = some (.bool (⟨1189, 3667, false⟩ : Sp).far) := by go_simp
            clear m10_0_0 m10_0_1 m10_0_2 m10_1_0 m10_1_1 m10_1_2 m10_2_0 m10_2_1 m10_2_2 m10_3_0 m10_3_1 m10_3_2 m10_4_0 m10_4_1 m10_4_2
            clear hc11
            have y11_0_0 : w11.frozen? ⟨w.heap.size + 1 + 1, 0, none⟩ = false := by go_simp
            have y11_0_1 : w11.frozen? ⟨w.heap.size + 1 + 1, 1, none⟩ = false := by go_simp
            have y11_0_2 : w11.frozen? ⟨w.heap.size + 1 + 1, 2, none⟩ = false := by go_simp
            have y11_1_0 : w11.frozen? ⟨w2.heap.size, 0, none⟩ = false := by go_simp
            have y11_1_1 : w11.frozen? ⟨w2.heap.size, 1, none⟩ = false := by go_simp
            have y11_1_2 : w11.frozen? ⟨w2.heap.size, 2, none⟩ = false := by go_simp
            clear z10 hB10 s10_0 s10_1 s10_2 s10_3 s10_4 y10_0_0 y10_0_1 y10_0_2 y10_1_0 y10_1_1 y10_1_2 hf11
            go_upto_if 99 with fail
            obtain ⟨w12, hwq⟩ : ∃ x, x = ((w11.setCell ⟨w.heap.size + 1 + 1, 0, none⟩ (.int .i64 0)).setCell ⟨w.heap.size + 1 + 1, 1, none⟩ (.int .i64 0)).setCell ⟨w.heap.size + 1 + 1, 2, none⟩ (.bool false) := ⟨_, rfl⟩
            rw [← hwq]
            have hB12 : Below w.heap.size w w12 := by rw [hwq]; exact (by repeat (first | with_reducible exact hB11 | with_reducible exact Below.refl _ _ | with_reducible refine below_set ?_ (by first | omega | (dsimp only; omega)) _ | with_reducible refine balloc ?_ _ | with_reducible refine Below.drew ?_ | with_reducible refine below_drewN ?_ _ | exact hB11 | exact Below.refl _ _ | refine balloc ?_ _ | refine Below.drew ?_ | refine below_drewN ?_ _ | refine below_set ?_ (by first | omega | (dsimp only; omega)) _))
            have s12_0 : w.heap.size < w12.heap.size := by rw [hwq]; (first | omega | (simp only [World.heap_drewN, World.size_alloc, World.size_setCell, World.size_drew]; omega))
            have s12_1 : w.heap.size + 1 < w12.heap.size := by rw [hwq]; (first | omega | (simp only [World.heap_drewN, World.size_alloc, World.size_setCell, World.size_drew]; omega))
            have s12_2 : w.heap.size + 1 + 1 < w12.heap.size := by rw [hwq]; (first | omega | (simp only [World.heap_drewN, World.size_alloc, World.size_setCell, World.size_drew]; omega))
            have s12_3 : w2.heap.size < w12.heap.size := by rw [hwq]; (first | omega | (simp only [World.heap_drewN, World.size_alloc, World.size_setCell, World.size_drew]; omega))
            have s12_4 : w4.heap.size < w12.heap.size := by rw [hwq]; (first | omega | (simp only [World.heap_drewN, World.size_alloc, World.size_setCell, World.size_drew]; omega))
            have m12_0_0 : w12.cell? ⟨w.heap.size + 1, 0, none⟩ = some (.int .i64 sig.x) := by rw [hwq]; go_simp
            have m12_0_1 : w12.cell? ⟨w.heap.size + 1, 1, none⟩ = some (.int .i64 sig.y) := by rw [hwq]; go_simp
            have m12_0_2 : w12.cell? ⟨w.heap.size + 1, 2, none⟩ = some (.bool sig.far) := by rw [hwq]; go_simp
            have m12_1_0 : w12.cell? ⟨w.heap.size + 1 + 1, 0, none⟩ = some (.int .i64 0) := by rw [hwq]; go_simp
            have m12_1_1 : w12.cell? ⟨w.heap.size + 1 + 1, 1, none⟩ = some (.int .i64 0) := by rw [hwq]; go_simp
            have m12_1_2 : w12.cell? ⟨w.heap.size + 1 + 1, 2, none⟩ = some (.bool false) := by rw [hwq]; go_simp
            have m12_2_0 : w12.cell? ⟨w2.heap.size, 0, none⟩ = some (.int .i64 W1.x) := by rw [hwq]; go_simp
            have m12_2_1 : w12.cell? ⟨w2.heap.size, 1, none⟩ = some (.int .i64 W1.y) := by rw [hwq]; go_simp
            have m12_2_2 : w12.cell? ⟨w2.heap.size, 2, none⟩ = some (.bool W1.far) := by rw [hwq]; go_simp
            have m12_3_0 : w12.cell? ⟨w4.heap.size, 0, none⟩ = some (.int .i64 (⟨1189, 3667, false⟩ : Sp).x) := by rw [hwq]; go_simp
            have m12_3_1 : w12.cell? ⟨w4.heap.size, 1, none⟩ = some (.int .i64 (⟨1189, 3667, false⟩ : Sp).y) := by rw [hwq]; go_simp
            have m12_3_2 : w12.cell? ⟨w4.heap.size, 2, none⟩ = some (.bool (⟨1189, 3667, false⟩ : Sp).far) := by rw [hwq]; go_simp
            have y12_0_0 : w12.frozen? ⟨w.heap.size + 1 + 1, 0, none⟩ = false := by rw [hwq]; go_simp
            have y12_0_1 : w12.frozen? ⟨w.heap.size + 1 + 1, 1, none⟩ = false := by rw [hwq]; go_simp
            have y12_0_2 : w12.frozen? ⟨w.heap.size + 1 + 1, 2, none⟩ = false := by rw [hwq]; go_simp
            have y12_1_0 : w12.frozen? ⟨w2.heap.size, 0, none⟩ = false := by rw [hwq]; go_simp
            have y12_1_1 : w12.frozen? ⟨w2.heap.size, 1, none⟩ = false := by rw [hwq]; go_simp
            have y12_1_2 : w12.frozen? ⟨w2.heap.size, 2, none⟩ = false := by rw [hwq]; go_simp
            clear m11_0_0 m11_0_1 m11_0_2 m11_1_0 m11_1_1 m11_1_2 m11_2_0 m11_2_1 m11_2_2 m11_3_0 m11_3_1 m11_3_2
            clear z11 hB11 s11_0 s11_1 s11_2 s11_3 s11_4 y11_0_0 y11_0_1 y11_0_2 y11_1_0 y11_1_1 y11_1_2
            clear hwq
            go_cut [27] from 99 to 101 (fun s27 wx => True ∧ Below w.heap.size w wx ∧ w.heap.size < wx.heap.size ∧ w.heap.size + 1 < wx.heap.size ∧ w.heap.size + 1 + 1 < wx.heap.size ∧ w2.heap.size < wx.heap.size ∧ w4.heap.size < wx.heap.size ∧ wx.cell? ⟨w.heap.size + 1, 0, none⟩ = some (.int .i64 sig.x) ∧ wx.cell? ⟨w.heap.size + 1, 1, none⟩ = some (.int .i64 sig.y) ∧ wx.cell? ⟨w.heap.size + 1, 2, none⟩ = some (.bool sig.far) ∧ wx.cell? ⟨w.heap.size + 1 + 1, 0, none⟩ = some (.int .i64 W3.x) ∧ wx.cell? ⟨w.heap.size + 1 + 1, 1, none⟩ = some (.int .i64 W3.y) ∧ wx.cell? ⟨w.heap.size + 1 + 1, 2, none⟩ = some (.bool W3.far) ∧ wx.cell? ⟨w2.heap.size, 0, none⟩ = some (.int .i64 W1.x) ∧ wx.cell? ⟨w2.heap.size, 1, none⟩ = some (.int .i64 W1.y) ∧ wx.cell? ⟨w2.heap.size, 2, none⟩ = some (.bool W1.far) ∧ wx.cell? ⟨w4.heap.size, 0, none⟩ = some (.int .i64 (⟨1189, 3667, false⟩ : Sp).x) ∧ wx.cell? ⟨w4.heap.size, 1, none⟩ = some (.int .i64 (⟨1189, 3667, false⟩ : Sp).y) ∧ wx.cell? ⟨w4.heap.size, 2, none⟩ = some (.bool (⟨1189, 3667, false⟩ : Sp).far) ∧ wx.frozen? ⟨w.heap.size + 1 + 1, 0, none⟩ = false ∧ wx.frozen? ⟨w.heap.size + 1 + 1, 1, none⟩ = false ∧ wx.frozen? ⟨w.heap.size + 1 + 1, 2, none⟩ = false ∧ wx.frozen? ⟨w2.heap.size, 0, none⟩ = false ∧ wx.frozen? ⟨w2.heap.size, 1, none⟩ = false ∧ wx.frozen? ⟨w2.heap.size, 2, none⟩ = false)
            case first =>
              rcases h6.out with ⟨e1, e2⟩ | ⟨e1, e2⟩
              · subst e1
                replace e2 := Lib.hid e2
                clear h6
                go_wp2_with fail
                refine (e2.out _ (by repeat (first | with_reducible exact hB12 | with_reducible exact Below.refl _ _ | with_reducible refine below_set ?_ (by first | omega | (dsimp only; omega)) _ | with_reducible refine balloc ?_ _ | with_reducible refine Below.drew ?_ | with_reducible refine below_drewN ?_ _ | exact hB12 | exact Below.refl _ _ | refine balloc ?_ _ | refine Below.drew ?_ | refine below_drewN ?_ _ | refine below_set ?_ (by first | omega | (dsimp only; omega)) _))).mono ?_; rintro e w13 ⟨rfl, hb⟩
                obtain ⟨hc13, hf13⟩ := bcell hb
                have z13 := hb.size
                try simp only [World.size_alloc, World.size_setCell, World.size_drew] at z13
                have s13_0 : w.heap.size < w13.heap.size := by omega
                have s13_1 : w.heap.size + 1 < w13.heap.size := by omega
                have s13_2 : w.heap.size + 1 + 1 < w13.heap.size := by omega
                have s13_3 : w2.heap.size < w13.heap.size := by omega
                have s13_4 : w4.heap.size < w13.heap.size := by omega
                have hB13 : Below w.heap.size w w13 := below_seq (by repeat (first | with_reducible exact hB12 | with_reducible exact Below.refl _ _ | with_reducible refine below_set ?_ (by first | omega | (dsimp only; omega)) _ | with_reducible refine balloc ?_ _ | with_reducible refine Below.drew ?_ | with_reducible refine below_drewN ?_ _ | exact hB12 | exact Below.refl _ _ | refine balloc ?_ _ | refine Below.drew ?_ | refine below_drewN ?_ _ | refine below_set ?_ (by first | omega | (dsimp only; omega)) _)) hb
                clear hb
                have m13_0_0 : w13.cell? ⟨w.heap.size + 1, 0, none⟩ = some (.int .i64 sig.x) := by go_simp
                have m13_0_1 : w13.cell? ⟨w.heap.size + 1, 1, none⟩ = some (.int .i64 sig.y) := by go_simp
                have m13_0_2 : w13.cell? ⟨w.heap.size + 1, 2, none⟩ = some (.bool sig.far) := by go_simp
                have m13_1_0 : w13.cell? ⟨w.heap.size + 1 + 1, 0, none⟩ = some (.int .i64 0) := by go_simp
                have m13_1_1 : w13.cell? ⟨w.heap.size + 1 + 1, 1, none⟩ = some (.int .i64 0) := by go_simp
                have m13_1_2 : w13.cell? ⟨w.heap.size + 1 + 1, 2, none⟩ = some (.bool false) := by go_simp
                have m13_2_0 : w13.cell? ⟨w2.heap.size, 0, none⟩ = some (.int .i64 W1.x) := by go_simp
                have m13_2_1 : w13.cell? ⟨w2.heap.size, 1, none⟩ = some (.int .i64 W1.y) := by go_simp
                have m13_2_2 : w13.cell? ⟨w2.heap.size, 2, none⟩ = some (.bool W1.far) := by go_simp
                have m13_3_0 : w13.cell? ⟨w4.heap.size, 0, none⟩ = some (.int .i64 (⟨1189, 3667, false⟩ : Sp).x) := by go_simp
                have m13_3_1 : w13.cell? ⟨w4.heap.size, 1, none⟩ = some (.int .i64 (⟨1189, 3667, false⟩ : Sp).y) := by go_simp
                have m13_3_2 : w13.cell? ⟨w4.heap.size, 2, none⟩ = some (.bool (⟨1189, 3667, false⟩ : Sp).far) := by go_simp
                clear m12_0_0 m12_0_1 m12_0_2 m12_1_0 m12_1_1 m12_1_2 m12_2_0 m12_2_1 m12_2_2 m12_3_0 m12_3_1 m12_3_2
                clear hc13
                have y13_0_0 : w13.frozen? ⟨w.heap.size + 1 + 1, 0, none⟩ = false := by go_simp
                have y13_0_1 : w13.frozen? ⟨w.heap.size + 1 + 1, 1, none⟩ = false := by go_simp
                have y13_0_2 : w13.frozen? ⟨w.heap.size + 1 + 1, 2, none⟩ = false := by go_simp
                have y13_1_0 : w13.frozen? ⟨w2.heap.size, 0, none⟩ = false := by go_simp
                have y13_1_1 : w13.frozen? ⟨w2.heap.size, 1, none⟩ = false := by go_simp
                have y13_1_2 : w13.frozen? ⟨w2.heap.size, 2, none⟩ = false := by go_simp
                clear hB12 s12_0 s12_1 s12_2 s12_3 s12_4 y12_0_0 y12_0_1 y12_0_2 y12_1_0 y12_1_1 y12_1_2 hf13
                go_wp2_with fail
                go_meet
                exact ⟨trivial, (by repeat (first | with_reducible exact hB13 | with_reducible exact Below.refl _ _ | with_reducible refine below_set ?_ (by first | omega | (dsimp only; omega)) _ | with_reducible refine balloc ?_ _ | with_reducible refine Below.drew ?_ | with_reducible refine below_drewN ?_ _ | exact hB13 | exact Below.refl _ _ | refine balloc ?_ _ | refine Below.drew ?_ | refine below_drewN ?_ _ | refine below_set ?_ (by first | omega | (dsimp only; omega)) _)), (by first | with_reducible assumption | omega | (simp only [World.heap_drewN, World.size_alloc, World.size_setCell, World.size_drew]; omega)), (by first | with_reducible assumption | omega | (simp only [World.heap_drewN, World.size_alloc, World.size_setCell, World.size_drew]; omega)), (by first | with_reducible assumption | omega | (simp only [World.heap_drewN, World.size_alloc, World.size_setCell, World.size_drew]; omega)), (by first | with_reducible assumption | omega | (simp only [World.heap_drewN, World.size_alloc, World.size_setCell, World.size_drew]; omega)), (by first | with_reducible assumption | omega | (simp only [World.heap_drewN, World.size_alloc, World.size_setCell, World.size_drew]; omega)), (by first | with_reducible assumption | go_simp), (by first | with_reducible assumption | go_simp), (by first | with_reducible assumption | go_simp), (by first | with_reducible assumption | go_simp), (by first | with_reducible assumption | go_simp), (by first | with_reducible assumption | go_simp), (by first | with_reducible assumption | go_simp), (by first | with_reducible assumption | go_simp), (by first | with_reducible assumption | go_simp), (by first | with_reducible assumption | go_simp), (by first | with_reducible assumption | go_simp), (by first | with_reducible assumption | go_simp), (by first | with_reducible assumption | go_simp), (by first | with_reducible assumption | go_simp), (by first | with_reducible assumption | go_simp), (by first | with_reducible assumption | go_simp), (by first | with_reducible assumption | go_simp), (by first | with_reducible assumption | go_simp)⟩
              · subst e2
                clear h6
                go_wp2_with fail
                go_meet
                exact ⟨trivial, (by repeat (first | with_reducible exact hB12 | with_reducible exact Below.refl _ _ | with_reducible refine below_set ?_ (by first | omega | (dsimp only; omega)) _ | with_reducible refine balloc ?_ _ | with_reducible refine Below.drew ?_ | with_reducible refine below_drewN ?_ _ | exact hB12 | exact Below.refl _ _ | refine balloc ?_ _ | refine Below.drew ?_ | refine below_drewN ?_ _ | refine below_set ?_ (by first | omega | (dsimp only; omega)) _)), (by first | with_reducible assumption | omega | (simp only [World.heap_drewN, World.size_alloc, World.size_setCell, World.size_drew]; omega)), (by first | with_reducible assumption | omega | (simp only [World.heap_drewN, World.size_alloc, World.size_setCell, World.size_drew]; omega)), (by first | with_reducible assumption | omega | (simp only [World.heap_drewN, World.size_alloc, World.size_setCell, World.size_drew]; omega)), (by first | with_reducible assumption | omega | (simp only [World.heap_drewN, World.size_alloc, World.size_setCell, World.size_drew]; omega)), (by first | with_reducible assumption | omega | (simp only [World.heap_drewN, World.size_alloc, World.size_setCell, World.size_drew]; omega)), (by first | with_reducible assumption | go_simp), (by first | with_reducible assumption | go_simp), (by first | with_reducible assumption | go_simp), (by first | with_reducible assumption | go_simp), (by first | with_reducible assumption | go_simp), (by first | with_reducible assumption | go_simp), (by first | with_reducible assumption | go_simp), (by first | with_reducible assumption | go_simp), (by first | with_reducible assumption | go_simp), (by first | with_reducible assumption | go_simp), (by first | with_reducible assumption | go_simp), (by first | with_reducible assumption | go_simp), (by first | with_reducible assumption | go_simp), (by first | with_reducible assumption | go_simp), (by first | with_reducible assumption | go_simp), (by first | with_reducible assumption | go_simp), (by first | with_reducible assumption | go_simp), (by first | with_reducible assumption | go_simp)⟩
            case rest =>
              obtain ⟨w13, hwq⟩ : ∃ x, x = wc := ⟨_, rfl⟩
              subst hwq
              obtain ⟨-, hB13, s13_0, s13_1, s13_2, s13_3, s13_4, m13_0_0, m13_0_1, m13_0_2, m13_1_0, m13_1_1, m13_1_2, m13_2_0, m13_2_1, m13_2_2, m13_3_0, m13_3_1, m13_3_2, y13_0_0, y13_0_1, y13_0_2, y13_1_0, y13_1_1, y13_1_2⟩ := hcut
              clear m12_0_0 m12_0_1 m12_0_2 m12_1_0 m12_1_1 m12_1_2 m12_2_0 m12_2_1 m12_2_2 m12_3_0 m12_3_1 m12_3_2
              clear hB12 s12_0 s12_1 s12_2 s12_3 s12_4 y12_0_0 y12_0_1 y12_0_2 y12_1_0 y12_1_1 y12_1_2
              clear h6
              go_wp2_with fail
              refine (kJ.out _ (by repeat (first | with_reducible exact hB13 | with_reducible exact Below.refl _ _ | with_reducible refine below_set ?_ (by first | omega | (dsimp only; omega)) _ | with_reducible refine balloc ?_ _ | with_reducible refine Below.drew ?_ | with_reducible refine below_drewN ?_ _ | exact hB13 | exact Below.refl _ _ | refine balloc ?_ _ | refine Below.drew ?_ | refine below_drewN ?_ _ | refine below_set ?_ (by first | omega | (dsimp only; omega)) _))).mono ?_; rintro e w14 ⟨rfl, hb⟩
              obtain ⟨hc14, hf14⟩ := bcell hb
              have z14 := hb.size
              try simp only [World.size_alloc, World.size_setCell, World.size_drew] at z14
              have s14_0 : w.heap.size < w14.heap.size := by omega
              have s14_1 : w.heap.size + 1 < w14.heap.size := by omega
              have s14_2 : w.heap.size + 1 + 1 < w14.heap.size := by omega
              have s14_3 : w2.heap.size < w14.heap.size := by omega
              have s14_4 : w4.heap.size < w14.heap.size := by omega
              have hB14 : Below w.heap.size w w14 := below_seq (by repeat (first | with_reducible exact hB13 | with_reducible exact Below.refl _ _ | with_reducible refine below_set ?_ (by first | omega | (dsimp only; omega)) _ | with_reducible refine balloc ?_ _ | with_reducible refine Below.drew ?_ | with_reducible refine below_drewN ?_ _ | exact hB13 | exact Below.refl _ _ | refine balloc ?_ _ | refine Below.drew ?_ | refine below_drewN ?_ _ | refine below_set ?_ (by first | omega | (dsimp only; omega)) _)) hb
              clear hb
              have m14_0_0 : w14.cell? ⟨w.heap.size + 1, 0, none⟩ = some (.int .i64 sig.x) := by go_simp
              have m14_0_1 : w14.cell? ⟨w.heap.size + 1, 1, none⟩ = some (.int .i64 sig.y) := by go_simp
              have m14_0_2 : w14.cell? ⟨w.heap.size + 1, 2, none⟩ = some (.bool sig.far) := by go_simp
              have m14_1_0 : w14.cell? ⟨w.heap.size + 1 + 1, 0, none⟩ = some (.int .i64 W3.x) := by go_simp
              have m14_1_1 : w14.cell? ⟨w.heap.size + 1 + 1, 1, none⟩ = some (.int .i64 W3.y) := by go_simp
              have m14_1_2 : w14.cell? ⟨w.heap.size + 1 + 1, 2, none⟩ = some (.bool W3.far) := by go_simp
              have m14_2_0 : w14.cell? ⟨w2.heap.size, 0, none⟩ = some (.int .i64 W1.x) := by go_simp
              have m14_2_1 : w14.cell? ⟨w2.heap.size, 1, none⟩ = some (.int .i64 W1.y) := by go_simp
              have m14_2_2 : w14.cell? ⟨w2.heap.size, 2, none⟩ = some (.bool W1.far) := by go_simp
              have m14_3_0 : w14.cell? ⟨w4.heap.size, 0, none⟩ = some (.int .i64 (⟨1189, 3667, false⟩ : Sp).x) := by go_simp
              have m14_3_1 : w14.cell? ⟨w4.heap.size, 1, none⟩ = some (.int .i64 (⟨1189, 3667, false⟩ : Sp).y) := by go_simp
              have m14_3_2 : w14.cell? ⟨w4.heap.size, 2, none⟩ = some (.bool (⟨1189, 3667, false⟩ : Sp).far) := by go_simp
              clear m13_0_0 m13_0_1 m13_0_2 m13_1_0 m13_1_1 m13_1_2 m13_2_0 m13_2_1 m13_2_2 m13_3_0 m13_3_1 m13_3_2
              clear hc14
              have y14_0_0 : w14.frozen? ⟨w.heap.size + 1 + 1, 0, none⟩ = false := by go_simp
              have y14_0_1 : w14.frozen? ⟨w.heap.size + 1 + 1, 1, none⟩ = false := by go_simp
              have y14_0_2 : w14.frozen? ⟨w.heap.size + 1 + 1, 2, none⟩ = false := by go_simp
              have y14_1_0 : w14.frozen? ⟨w2.heap.size, 0, none⟩ = false := by go_simp
              have y14_1_1 : w14.frozen? ⟨w2.heap.size, 1, none⟩ = false := by go_simp
              have y14_1_2 : w14.frozen? ⟨w2.heap.size, 2, none⟩ = false := by go_simp
              clear hB13 s13_0 s13_1 s13_2 s13_3 s13_4 y13_0_0 y13_0_1 y13_0_2 y13_1_0 y13_1_1 y13_1_2 hf14
              go_wp2_with fail
              refine (error_same (errV E3) E3 _ (hE.below (by repeat (first | with_reducible exact hB14 | with_reducible exact Below.refl _ _ | with_reducible refine below_set ?_ (by first | omega | (dsimp only; omega)) _ | with_reducible refine balloc ?_ _ | with_reducible refine Below.drew ?_ | with_reducible refine below_drewN ?_ _ | exact hB14 | exact Below.refl _ _ | refine balloc ?_ _ | refine Below.drew ?_ | refine below_drewN ?_ _ | refine below_set ?_ (by first | omega | (dsimp only; omega)) _))) (Lib.hid rfl)).mono ?_; rintro e w15 ⟨rfl, hb⟩
              obtain ⟨hc15, hf15⟩ := bcell hb
              have z15 := hb.size
              try simp only [World.size_alloc, World.size_setCell, World.size_drew] at z15
              have s15_0 : w.heap.size < w15.heap.size := by omega
              have s15_1 : w.heap.size + 1 < w15.heap.size := by omega
              have s15_2 : w.heap.size + 1 + 1 < w15.heap.size := by omega
              have s15_3 : w2.heap.size < w15.heap.size := by omega
              have s15_4 : w4.heap.size < w15.heap.size := by omega
              have hB15 : Below w.heap.size w w15 := below_seq (by repeat (first | with_reducible exact hB14 | with_reducible exact Below.refl _ _ | with_reducible refine below_set ?_ (by first | omega | (dsimp only; omega)) _ | with_reducible refine balloc ?_ _ | with_reducible refine Below.drew ?_ | with_reducible refine below_drewN ?_ _ | exact hB14 | exact Below.refl _ _ | refine balloc ?_ _ | refine Below.drew ?_ | refine below_drewN ?_ _ | refine below_set ?_ (by first | omega | (dsimp only; omega)) _)) hb
              clear hb
              have m15_0_0 : w15.cell? ⟨w.heap.size + 1, 0, none⟩ = some (.int .i64 sig.x) := by go_simp
              have m15_0_1 : w15.cell? ⟨w.heap.size + 1, 1, none⟩ = some (.int .i64 sig.y) := by go_simp
              have m15_0_2 : w15.cell? ⟨w.heap.size + 1, 2, none⟩ = some (.bool sig.far) := by go_simp
              have m15_1_0 : w15.cell? ⟨w.heap.size + 1 + 1, 0, none⟩ = some (.int .i64 W3.x) := by go_simp
              have m15_1_1 : w15.cell? ⟨w.heap.size + 1 + 1, 1, none⟩ = some (.int .i64 W3.y) := by go_simp
              have m15_1_2 : w15.cell? ⟨w.heap.size + 1 + 1, 2, none⟩ = some (.bool W3.far) := by go_simp
              have m15_2_0 : w15.cell? ⟨w2.heap.size, 0, none⟩ = some (.int .i64 W3.x) := by go_simp
              have m15_2_1 : w15.cell? ⟨w2.heap.size, 1, none⟩ = some (.int .i64 W3.y) := by go_simp
              have m15_2_2 : w15.cell? ⟨w2.heap.size, 2, none⟩ = some (.bool W3.far) := by go_simp
              have m15_3_0 : w15.cell? ⟨w4.heap.size, 0, none⟩ = some (.int .i64 (⟨1189, 3667, false⟩ : Sp).x) := by go_simp
              have m15_3_1 : w15.cell? ⟨w4.heap.size, 1, none⟩ = some (.int .i64 (⟨1189, 3667, false⟩ : Sp).y) := by go_simp
              have m15_3_2 : w15.cell? ⟨w4.heap.size, 2, none⟩ = some (.bool (⟨1189, 3667, false⟩ : Sp).far) := by go_simp
              clear m14_0_0 m14_0_1 m14_0_2 m14_1_0 m14_1_1 m14_1_2 m14_2_0 m14_2_1 m14_2_2 m14_3_0 m14_3_1 m14_3_2
              clear hc15
              clear z14 hB14 s14_0 s14_1 s14_2 s14_3 s14_4 y14_0_0 y14_0_1 y14_0_2 y14_1_0 y14_1_1 y14_1_2 hf15
              clear kJ kSp
              go_upto_region 29 with fail
              go_cut [122] from 115 to 121 (fun s122 wx => s122 = .bool B122 ∧ Below w.heap.size w wx ∧ w.heap.size < wx.heap.size ∧ w.heap.size + 1 < wx.heap.size ∧ w.heap.size + 1 + 1 < wx.heap.size ∧ w2.heap.size < wx.heap.size ∧ w4.heap.size < wx.heap.size ∧ wx.cell? ⟨w.heap.size + 1, 0, none⟩ = some (.int .i64 sig.x) ∧ wx.cell? ⟨w.heap.size + 1, 1, none⟩ = some (.int .i64 sig.y) ∧ wx.cell? ⟨w.heap.size + 1, 2, none⟩ = some (.bool sig.far) ∧ wx.cell? ⟨w4.heap.size, 0, none⟩ = some (.int .i64 (⟨1189, 3667, false⟩ : Sp).x) ∧ wx.cell? ⟨w4.heap.size, 1, none⟩ = some (.int .i64 (⟨1189, 3667, false⟩ : Sp).y) ∧ wx.cell? ⟨w4.heap.size, 2, none⟩ = some (.bool (⟨1189, 3667, false⟩ : Sp).far))
              case first =>
                rcases h7a.out with ⟨e1, e2⟩ | ⟨e1, e2, e3⟩ | ⟨e1, e2, e3⟩
                · subst e2
                  clear h7a
                  have g1 : decide ((12 : Int) < (n4 : Int)) = true := by rw [decide_eq_true_iff]; omega
                  go_wp2_with fail
                  go_meet
                  exact ⟨rfl, (by repeat (first | with_reducible exact hB15 | with_reducible exact Below.refl _ _ | with_reducible refine below_set ?_ (by first | omega | (dsimp only; omega)) _ | with_reducible refine balloc ?_ _ | with_reducible refine Below.drew ?_ | with_reducible refine below_drewN ?_ _ | exact hB15 | exact Below.refl _ _ | refine balloc ?_ _ | refine Below.drew ?_ | refine below_drewN ?_ _ | refine below_set ?_ (by first | omega | (dsimp only; omega)) _)), (by first | with_reducible assumption | omega | (simp only [World.heap_drewN, World.size_alloc, World.size_setCell, World.size_drew]; omega)), (by first | with_reducible assumption | omega | (simp only [World.heap_drewN, World.size_alloc, World.size_setCell, World.size_drew]; omega)), (by first | with_reducible assumption | omega | (simp only [World.heap_drewN, World.size_alloc, World.size_setCell, World.size_drew]; omega)), (by first | with_reducible assumption | omega | (simp only [World.heap_drewN, World.size_alloc, World.size_setCell, World.size_drew]; omega)), (by first | with_reducible assumption | omega | (simp only [World.heap_drewN, World.size_alloc, World.size_setCell, World.size_drew]; omega)), (by first | with_reducible assumption | go_simp), (by first | with_reducible assumption | go_simp), (by first | with_reducible assumption | go_simp), (by first | with_reducible assumption | go_simp), (by first | with_reducible assumption | go_simp), (by first | with_reducible assumption | go_simp)⟩
                · subst e3
                  clear h7a
                  have g1 : decide ((12 : Int) < (n4 : Int)) = false := by rw [decide_eq_false_iff_not]; omega
                  have g2 : decide ((12 : Int) < (n5 : Int)) = true := by rw [decide_eq_true_iff]; omega
                  go_wp2_with fail
                  go_meet
                  exact ⟨rfl, (by repeat (first | with_reducible exact hB15 | with_reducible exact Below.refl _ _ | with_reducible refine below_set ?_ (by first | omega | (dsimp only; omega)) _ | with_reducible refine balloc ?_ _ | with_reducible refine Below.drew ?_ | with_reducible refine below_drewN ?_ _ | exact hB15 | exact Below.refl _ _ | refine balloc ?_ _ | refine Below.drew ?_ | refine below_drewN ?_ _ | refine below_set ?_ (by first | omega | (dsimp only; omega)) _)), (by first | with_reducible assumption | omega | (simp only [World.heap_drewN, World.size_alloc, World.size_setCell, World.size_drew]; omega)), (by first | with_reducible assumption | omega | (simp only [World.heap_drewN, World.size_alloc, World.size_setCell, World.size_drew]; omega)), (by first | with_reducible assumption | omega | (simp only [World.heap_drewN, World.size_alloc, World.size_setCell, World.size_drew]; omega)), (by first | with_reducible assumption | omega | (simp only [World.heap_drewN, World.size_alloc, World.size_setCell, World.size_drew]; omega)), (by first | with_reducible assumption | omega | (simp only [World.heap_drewN, World.size_alloc, World.size_setCell, World.size_drew]; omega)), (by first | with_reducible assumption | go_simp), (by first | with_reducible assumption | go_simp), (by first | with_reducible assumption | go_simp), (by first | with_reducible assumption | go_simp), (by first | with_reducible assumption | go_simp), (by first | with_reducible assumption | go_simp)⟩
                · subst e3
                  clear h7a
                  have g1 : decide ((12 : Int) < (n4 : Int)) = false := by rw [decide_eq_false_iff_not]; omega
                  have g2 : decide ((12 : Int) < (n5 : Int)) = false := by rw [decide_eq_false_iff_not]; omega
                  go_wp2_with fail
                  go_meet
                  exact ⟨rfl, (by repeat (first | with_reducible exact hB15 | with_reducible exact Below.refl _ _ | with_reducible refine below_set ?_ (by first | omega | (dsimp only; omega)) _ | with_reducible refine balloc ?_ _ | with_reducible refine Below.drew ?_ | with_reducible refine below_drewN ?_ _ | exact hB15 | exact Below.refl _ _ | refine balloc ?_ _ | refine Below.drew ?_ | refine below_drewN ?_ _ | refine below_set ?_ (by first | omega | (dsimp only; omega)) _)), (by first | with_reducible assumption | omega | (simp only [World.heap_drewN, World.size_alloc, World.size_setCell, World.size_drew]; omega)), (by first | with_reducible assumption | omega | (simp only [World.heap_drewN, World.size_alloc, World.size_setCell, World.size_drew]; omega)), (by first | with_reducible assumption | omega | (simp only [World.heap_drewN, World.size_alloc, World.size_setCell, World.size_drew]; omega)), (by first | with_reducible assumption | omega | (simp only [World.heap_drewN, World.size_alloc, World.size_setCell, World.size_drew]; omega)), (by first | with_reducible assumption | omega | (simp only [World.heap_drewN, World.size_alloc, World.size_setCell, World.size_drew]; omega)), (by first | with_reducible assumption | go_simp), (by first | with_reducible assumption | go_simp), (by first | with_reducible assumption | go_simp), (by first | with_reducible assumption | go_simp), (by first | with_reducible assumption | go_simp), (by first | with_reducible assumption | go_simp)⟩
              case rest =>
                obtain ⟨w16, hwq⟩ : ∃ x, x = wc := ⟨_, rfl⟩
                subst hwq
                obtain ⟨rfl, hB16, s16_0, s16_1, s16_2, s16_3, s16_4, m16_0_0, m16_0_1, m16_0_2, m16_1_0, m16_1_1, m16_1_2⟩ := hcut
                clear m15_0_0 m15_0_1 m15_0_2 m15_1_0 m15_1_1 m15_1_2 m15_2_0 m15_2_1 m15_2_2 m15_3_0 m15_3_1 m15_3_2
                clear z15 hB15 s15_0 s15_1 s15_2 s15_3 s15_4
                clear h7a
                go_upto_if 122 with fail
                go_cut [13] from 122 to 127 (fun s13 wx => s13 = .int .i64 E4 ∧ Below w.heap.size w wx ∧ w.heap.size < wx.heap.size ∧ w.heap.size + 1 < wx.heap.size ∧ w.heap.size + 1 + 1 < wx.heap.size ∧ w2.heap.size < wx.heap.size ∧ w4.heap.size < wx.heap.size ∧ wx.cell? ⟨w.heap.size + 1, 0, none⟩ = some (.int .i64 sig.x) ∧ wx.cell? ⟨w.heap.size + 1, 1, none⟩ = some (.int .i64 sig.y) ∧ wx.cell? ⟨w.heap.size + 1, 2, none⟩ = some (.bool sig.far) ∧ wx.cell? ⟨w4.heap.size, 0, none⟩ = some (.int .i64 (⟨1189, 3667, false⟩ : Sp).x) ∧ wx.cell? ⟨w4.heap.size, 1, none⟩ = some (.int .i64 (⟨1189, 3667, false⟩ : Sp).y) ∧ wx.cell? ⟨w4.heap.size, 2, none⟩ = some (.bool (⟨1189, 3667, false⟩ : Sp).far))
                case first =>
                  rcases h7.out with ⟨e1, e2⟩ | ⟨e1, e2, e3⟩ | ⟨e1, e2, e3⟩
                  · subst e1 e2
                    clear h7
                    go_wp2_with fail
                    go_meet
                    exact ⟨rfl, (by repeat (first | with_reducible exact hB16 | with_reducible exact Below.refl _ _ | with_reducible refine below_set ?_ (by first | omega | (dsimp only; omega)) _ | with_reducible refine balloc ?_ _ | with_reducible refine Below.drew ?_ | with_reducible refine below_drewN ?_ _ | exact hB16 | exact Below.refl _ _ | refine balloc ?_ _ | refine Below.drew ?_ | refine below_drewN ?_ _ | refine below_set ?_ (by first | omega | (dsimp only; omega)) _)), (by first | with_reducible assumption | omega | (simp only [World.heap_drewN, World.size_alloc, World.size_setCell, World.size_drew]; omega)), (by first | with_reducible assumption | omega | (simp only [World.heap_drewN, World.size_alloc, World.size_setCell, World.size_drew]; omega)), (by first | with_reducible assumption | omega | (simp only [World.heap_drewN, World.size_alloc, World.size_setCell, World.size_drew]; omega)), (by first | with_reducible assumption | omega | (simp only [World.heap_drewN, World.size_alloc, World.size_setCell, World.size_drew]; omega)), (by first | with_reducible assumption | omega | (simp only [World.heap_drewN, World.size_alloc, World.size_setCell, World.size_drew]; omega)), (by first | with_reducible assumption | go_simp), (by first | with_reducible assumption | go_simp), (by first | with_reducible assumption | go_simp), (by first | with_reducible assumption | go_simp), (by first | with_reducible assumption | go_simp), (by first | with_reducible assumption | go_simp)⟩
                  · subst e1 e3
                    clear h7
                    go_wp2_with fail
                    go_meet
                    exact ⟨rfl, (by repeat (first | with_reducible exact hB16 | with_reducible exact Below.refl _ _ | with_reducible refine below_set ?_ (by first | omega | (dsimp only; omega)) _ | with_reducible refine balloc ?_ _ | with_reducible refine Below.drew ?_ | with_reducible refine below_drewN ?_ _ | exact hB16 | exact Below.refl _ _ | refine balloc ?_ _ | refine Below.drew ?_ | refine below_drewN ?_ _ | refine below_set ?_ (by first | omega | (dsimp only; omega)) _)), (by first | with_reducible assumption | omega | (simp only [World.heap_drewN, World.size_alloc, World.size_setCell, World.size_drew]; omega)), (by first | with_reducible assumption | omega | (simp only [World.heap_drewN, World.size_alloc, World.size_setCell, World.size_drew]; omega)), (by first | with_reducible assumption | omega | (simp only [World.heap_drewN, World.size_alloc, World.size_setCell, World.size_drew]; omega)), (by first | with_reducible assumption | omega | (simp only [World.heap_drewN, World.size_alloc, World.size_setCell, World.size_drew]; omega)), (by first | with_reducible assumption | omega | (simp only [World.heap_drewN, World.size_alloc, World.size_setCell, World.size_drew]; omega)), (by first | with_reducible assumption | go_simp), (by first | with_reducible assumption | go_simp), (by first | with_reducible assumption | go_simp), (by first | with_reducible assumption | go_simp), (by first | with_reducible assumption | go_simp), (by first | with_reducible assumption | go_simp)⟩
                  · subst e1 e3
                    clear h7
                    go_wp2_with fail
                    go_meet
                    exact ⟨rfl, (by repeat (first | with_reducible exact hB16 | with_reducible exact Below.refl _ _ | with_reducible refine below_set ?_ (by first | omega | (dsimp only; omega)) _ | with_reducible refine balloc ?_ _ | with_reducible refine Below.drew ?_ | with_reducible refine below_drewN ?_ _ | exact hB16 | exact Below.refl _ _ | refine balloc ?_ _ | refine Below.drew ?_ | refine below_drewN ?_ _ | refine below_set ?_ (by first | omega | (dsimp only; omega)) _)), (by first | with_reducible assumption | omega | (simp only [World.heap_drewN, World.size_alloc, World.size_setCell, World.size_drew]; omega)), (by first | with_reducible assumption | omega | (simp only [World.heap_drewN, World.size_alloc, World.size_setCell, World.size_drew]; omega)), (by first | with_reducible assumption | omega | (simp only [World.heap_drewN, World.size_alloc, World.size_setCell, World.size_drew]; omega)), (by first | with_reducible assumption | omega | (simp only [World.heap_drewN, World.size_alloc, World.size_setCell, World.size_drew]; omega)), (by first | with_reducible assumption | omega | (simp only [World.heap_drewN, World.size_alloc, World.size_setCell, World.size_drew]; omega)), (by first | with_reducible assumption | go_simp), (by first | with_reducible assumption | go_simp), (by first | with_reducible assumption | go_simp), (by first | with_reducible assumption | go_simp), (by first | with_reducible assumption | go_simp), (by first | with_reducible assumption | go_simp)⟩
                case rest =>
                  obtain ⟨w17, hwq⟩ : ∃ x, x = wc := ⟨_, rfl⟩
                  subst hwq
                  obtain ⟨rfl, hB17, s17_0, s17_1, s17_2, s17_3, s17_4, m17_0_0, m17_0_1, m17_0_2, m17_1_0, m17_1_1, m17_1_2⟩ := hcut
                  clear m16_0_0 m16_0_1 m16_0_2 m16_1_0 m16_1_1 m16_1_2
                  clear hB16 s16_0 s16_1 s16_2 s16_3 s16_4
                  clear h7
                  go_upto_block 0 with fail
                  go_cut [13, 24, 25] from 128 to 151 (fun s13 s24 s25 wx => s13 = .int .i64 E5 ∧ (E5 = 0 → SpSl wx s24 Hs) ∧ Below w.heap.size w wx ∧ w.heap.size < wx.heap.size ∧ w.heap.size + 1 < wx.heap.size ∧ w.heap.size + 1 + 1 < wx.heap.size ∧ w2.heap.size < wx.heap.size ∧ w4.heap.size < wx.heap.size ∧ wx.cell? ⟨w.heap.size + 1, 0, none⟩ = some (.int .i64 sig.x) ∧ wx.cell? ⟨w.heap.size + 1, 1, none⟩ = some (.int .i64 sig.y) ∧ wx.cell? ⟨w.heap.size + 1, 2, none⟩ = some (.bool sig.far) ∧ wx.cell? ⟨w4.heap.size, 0, none⟩ = some (.int .i64 (⟨1189, 3667, false⟩ : Sp).x) ∧ wx.cell? ⟨w4.heap.size, 1, none⟩ = some (.int .i64 (⟨1189, 3667, false⟩ : Sp).y) ∧ wx.cell? ⟨w4.heap.size, 2, none⟩ = some (.bool (⟨1189, 3667, false⟩ : Sp).far))
                  case first =>
                    rcases h8.out with ⟨e1, e2⟩ | ⟨e1, k, e2, h12, hHl, hT, hk, e3, e4, e5, e6⟩
                    · subst e2
                      clear h8 h9 h10 h11 kA
                      have hn0 : E5 = 0 → ∀ (wx : World) (v : Value), SpSl wx v Hs := fun h => by rw [h] at e1; exact absurd e1 (by decide)
                      replace hn0 := Lib.hid hn0
                      rcases Nat.eq_zero_or_pos n5 with hm0 | hm0
                      · have g1 : decide ((0 : Int) < (n5 : Int)) = false := by rw [decide_eq_false_iff_not]; omega
                        have hm1 : ¬ 0 < n5 := by omega
                        clear hm0
                        go_wp2_with fail
                        refine wp_loop_rounds 1 ?_
                        rw [rounds_succ]
                        go_wp2_with fail
                        go_meet
                        exact ⟨rfl, (fun h => hn0.out h _ _), (by repeat (first | with_reducible exact hB17 | with_reducible exact Below.refl _ _ | with_reducible refine below_set ?_ (by first | omega | (dsimp only; omega)) _ | with_reducible refine balloc ?_ _ | with_reducible refine Below.drew ?_ | with_reducible refine below_drewN ?_ _ | exact hB17 | exact Below.refl _ _ | refine balloc ?_ _ | refine Below.drew ?_ | refine below_drewN ?_ _ | refine below_set ?_ (by first | omega | (dsimp only; omega)) _)), (by first | with_reducible assumption | omega | (simp only [World.heap_drewN, World.size_alloc, World.size_setCell, World.size_drew]; omega)), (by first | with_reducible assumption | omega | (simp only [World.heap_drewN, World.size_alloc, World.size_setCell, World.size_drew]; omega)), (by first | with_reducible assumption | omega | (simp only [World.heap_drewN, World.size_alloc, World.size_setCell, World.size_drew]; omega)), (by first | with_reducible assumption | omega | (simp only [World.heap_drewN, World.size_alloc, World.size_setCell, World.size_drew]; omega)), (by first | with_reducible assumption | omega | (simp only [World.heap_drewN, World.size_alloc, World.size_setCell, World.size_drew]; omega)), (by first | with_reducible assumption | go_simp), (by first | with_reducible assumption | go_simp), (by first | with_reducible assumption | go_simp), (by first | with_reducible assumption | go_simp), (by first | with_reducible assumption | go_simp), (by first | with_reducible assumption | go_simp)⟩
                      · have g1 : decide ((0 : Int) < (n5 : Int)) = true := by rw [decide_eq_true_iff]; omega
                        go_wp2_with fail
                        refine wp_loop_rounds 1 ?_
                        rw [rounds_succ]
                        go_wp2_with fail
                        go_meet
                        exact ⟨rfl, (fun h => hn0.out h _ _), (by repeat (first | with_reducible exact hB17 | with_reducible exact Below.refl _ _ | with_reducible refine below_set ?_ (by first | omega | (dsimp only; omega)) _ | with_reducible refine balloc ?_ _ | with_reducible refine Below.drew ?_ | with_reducible refine below_drewN ?_ _ | exact hB17 | exact Below.refl _ _ | refine balloc ?_ _ | refine Below.drew ?_ | refine below_drewN ?_ _ | refine below_set ?_ (by first | omega | (dsimp only; omega)) _)), (by first | with_reducible assumption | omega | (simp only [World.heap_drewN, World.size_alloc, World.size_setCell, World.size_drew]; omega)), (by first | with_reducible assumption | omega | (simp only [World.heap_drewN, World.size_alloc, World.size_setCell, World.size_drew]; omega)), (by first | with_reducible assumption | omega | (simp only [World.heap_drewN, World.size_alloc, World.size_setCell, World.size_drew]; omega)), (by first | with_reducible assumption | omega | (simp only [World.heap_drewN, World.size_alloc, World.size_setCell, World.size_drew]; omega)), (by first | with_reducible assumption | omega | (simp only [World.heap_drewN, World.size_alloc, World.size_setCell, World.size_drew]; omega)), (by first | with_reducible assumption | go_simp), (by first | with_reducible assumption | go_simp), (by first | with_reducible assumption | go_simp), (by first | with_reducible assumption | go_simp), (by first | with_reducible assumption | go_simp), (by first | with_reducible assumption | go_simp)⟩
                    · subst e1 e2
                      replace e3 := Lib.hid e3
                      replace e4 := Lib.hid e4
                      replace e5 := Lib.hid e5
                      replace e6 := Lib.hid e6
                      replace hT := Lib.hid hT
                      replace hHl := Lib.hid hHl
                      clear h8 h9 h10 h11 kA
                      go_wp2_with fail
                      go_loopw [13, 24, 25] (fun e v i wr => ∃ q : Nat, q ≤ Ts.length ∧ i = .int .i64 q ∧ ((q ≤ k ∧ e = .int .i64 0 ∧ wr.ownsRow w17.heap.size 25 3 v q (spCells (Hs.take q))) ∨ (k < Ts.length ∧ q = k + 1 ∧ e = .int .i64 4)) ∧ Below w17.heap.size w17 wr) (fun _ _ i _ => Ts.length - (intOf i).toNat)
                      case atStart => exact ⟨0, Nat.zero_le _, rfl, .inl ⟨Nat.zero_le _, rfl, World.ownsRow_nil _ _ _ _⟩, Below.refl _ _⟩
                      case round =>
                        obtain ⟨q, hq, rfl, hcase, hbr⟩ := hrel
                        have hBr : Below w.heap.size w wr := below_seq (by repeat (first | with_reducible exact hB17 | with_reducible exact Below.refl _ _ | with_reducible refine below_set ?_ (by first | omega | (dsimp only; omega)) _ | with_reducible refine balloc ?_ _ | with_reducible refine Below.drew ?_ | with_reducible refine below_drewN ?_ _ | exact hB17 | exact Below.refl _ _ | refine balloc ?_ _ | refine Below.drew ?_ | refine below_drewN ?_ _ | refine below_set ?_ (by first | omega | (dsimp only; omega)) _)) hbr
                        obtain ⟨hcr, hfr⟩ := bcell hbr
                        have zr := hbr.size
                        rcases hcase with ⟨hqk, rfl, hown⟩ | ⟨hkm, rfl, rfl⟩
                        · by_cases hqm : q < Ts.length
                          · obtain ⟨b5, o5, rfl, hs⟩ := hT.out (by omega)
                            have l1 := (hs.below hBr).c q hqm
                            have l4 := (hs.below hBr).lt
                            have hqH : q < Hs.length := by have := hHl.out; omega
                            have hOf := Lib.hid (e3.out q hqm hqH)
                            have hgood := Lib.hid (e4.out q hqm)
                            have hbadq : Hid (q = k → 60 < Ts[q].size ∧ Ts[q].size ≤ 140737488351232 ∧ E5 = 4) := Lib.hid (fun e => by subst e; exact e5.out hqm)
                            have hsn := take_snoc Hs q hqH
                            have htl : Hid ((Hs.take q).length = q) := Lib.hid (by rw [List.length_take]; omega)
                            clear hs e3 e4 e5 e6
                            generalize Ts[q] = T at *
                            generalize Hs[q] = C at *
                            replace hsn := Lib.hid hsn
                            replace hown := Lib.hid hown
                            by_cases hqk2 : q < k
                            · have ht60 := hgood.out hqk2
                              have g1 : decide ((60 : Int) < (T.size : Int)) = false := by rw [decide_eq_false_iff_not]; omega
                              clear hgood hbadq
                              go_wp2_with fail
                              refine (hOf.out _ hBr).mono ?_; rintro e u2 ⟨rfl, hb2⟩
                              have ow2 := Lib.hid (own_below hown.out hb2)
                              have hB2 := Lib.hid (below_seq hbr hb2)
                              have hs2 := hb2.size
                              clear hown hb2 l1 l4 hBr hbr hcr hfr hOf
                              go_wp2_with (first | (at_builtin; refine wpl_append_spot rfl _ _ _ rfl (by kernel_rfl) w17.heap.size _ (Hs.take q) q rfl (ow2.out.alloc _) htl.out (by omega) (by simp only [World.size_alloc]; omega) u2.heap.size C rfl (by go_simp) (by go_simp) (by go_simp) ?_; intro v' u3 hown' hgrow hbel hloc; replace hown' := Lib.hid hown'; replace hbel := Lib.hid (hbel w17 (balloc hB2.out _)); clear hgrow hloc ow2 hB2) | fail)
                              go_wp2
                              go_roundw
                              case rel => exact ⟨q + 1, by omega, by go_num, .inl ⟨by omega, rfl, by rw [hsn.out]; exact hown'.out⟩, hbel.out⟩
                              case measure => simp [intOf]; omega
                            · obtain rfl : q = k := by omega
                              obtain ⟨t1, t2, t3⟩ := hbadq.out rfl
                              have g1 : decide ((60 : Int) < (T.size : Int)) = true := by rw [decide_eq_true_iff]; omega
                              clear hgood hbadq
                              go_wp2_with fail
                              refine (hOf.out _ hBr).mono ?_; rintro e u2 ⟨rfl, hb2⟩
                              have ow2 := Lib.hid (own_below hown.out hb2)
                              have hB2 := Lib.hid (below_seq hbr hb2)
                              have hs2 := hb2.size
                              clear hown hb2 l1 l4 hBr hbr hcr hfr hOf
                              go_wp2_with (first | (at_builtin; refine wpl_append_spot rfl _ _ _ rfl (by kernel_rfl) w17.heap.size _ (Hs.take q) q rfl (ow2.out.alloc _) htl.out (by omega) (by simp only [World.size_alloc]; omega) u2.heap.size C rfl (by go_simp) (by go_simp) (by go_simp) ?_; intro v' u3 hown' hgrow hbel hloc; replace hown' := Lib.hid hown'; replace hbel := Lib.hid (hbel w17 (balloc hB2.out _)); clear hgrow hloc ow2 hB2) | fail)
                              go_wp2
                              go_roundw
                              case rel => exact ⟨q + 1, by omega, by go_num, .inr ⟨by omega, rfl, rfl⟩, hbel.out⟩
                              case measure => simp [intOf]; omega
                          · have he5 : E5 = 0 := e6.out (by omega)
                            obtain rfl : q = Ts.length := by omega
                            have hSp := Lib.hid (own_spots (by have := hown; rw [List.take_of_length_le (by have := hHl.out; omega)] at this; exact this) hHl.out.symm)
                            have g1 : decide ((Ts.length : Int) < (Ts.length : Int)) = false := by rw [decide_eq_false_iff_not]; omega
                            subst he5
                            clear e3 e4 e5 e6 hown
                            go_wp2_with fail
                            go_meet
                            exact ⟨rfl, (fun _ => hSp.out), (by repeat (first | with_reducible exact hBr | with_reducible exact Below.refl _ _ | with_reducible refine below_set ?_ (by first | omega | (dsimp only; omega)) _ | with_reducible refine balloc ?_ _ | with_reducible refine Below.drew ?_ | with_reducible refine below_drewN ?_ _ | exact hBr | exact Below.refl _ _ | refine balloc ?_ _ | refine Below.drew ?_ | refine below_drewN ?_ _ | refine below_set ?_ (by first | omega | (dsimp only; omega)) _)), (by first | with_reducible assumption | omega | (simp only [World.heap_drewN, World.size_alloc, World.size_setCell, World.size_drew]; omega)), (by first | with_reducible assumption | omega | (simp only [World.heap_drewN, World.size_alloc, World.size_setCell, World.size_drew]; omega)), (by first | with_reducible assumption | omega | (simp only [World.heap_drewN, World.size_alloc, World.size_setCell, World.size_drew]; omega)), (by first | with_reducible assumption | omega | (simp only [World.heap_drewN, World.size_alloc, World.size_setCell, World.size_drew]; omega)), (by first | with_reducible assumption | omega | (simp only [World.heap_drewN, World.size_alloc, World.size_setCell, World.size_drew]; omega)), (by first | with_reducible assumption | go_simp), (by first | with_reducible assumption | go_simp), (by first | with_reducible assumption | go_simp), (by first | with_reducible assumption | go_simp), (by first | with_reducible assumption | go_simp), (by first | with_reducible assumption | go_simp)⟩
                        · obtain ⟨t1, t2, t3⟩ := e5.out hkm
                          subst t3
                          clear e3 e4 e5 e6
                          rcases Nat.lt_or_ge (k + 1) Ts.length with hl | hl
                          · have g2 : decide (((k + 1 : Nat) : Int) < (Ts.length : Int)) = true := by rw [decide_eq_true_iff]; omega
                            go_wp2_with fail
                            go_meet
                            exact ⟨rfl, (fun h => absurd h (by decide)), (by repeat (first | with_reducible exact hBr | with_reducible exact Below.refl _ _ | with_reducible refine below_set ?_ (by first | omega | (dsimp only; omega)) _ | with_reducible refine balloc ?_ _ | with_reducible refine Below.drew ?_ | with_reducible refine below_drewN ?_ _ | exact hBr | exact Below.refl _ _ | refine balloc ?_ _ | refine Below.drew ?_ | refine below_drewN ?_ _ | refine below_set ?_ (by first | omega | (dsimp only; omega)) _)), (by first | with_reducible assumption | omega | (simp only [World.heap_drewN, World.size_alloc, World.size_setCell, World.size_drew]; omega)), (by first | with_reducible assumption | omega | (simp only [World.heap_drewN, World.size_alloc, World.size_setCell, World.size_drew]; omega)), (by first | with_reducible assumption | omega | (simp only [World.heap_drewN, World.size_alloc, World.size_setCell, World.size_drew]; omega)), (by first | with_reducible assumption | omega | (simp only [World.heap_drewN, World.size_alloc, World.size_setCell, World.size_drew]; omega)), (by first | with_reducible assumption | omega | (simp only [World.heap_drewN, World.size_alloc, World.size_setCell, World.size_drew]; omega)), (by first | with_reducible assumption | go_simp), (by first | with_reducible assumption | go_simp), (by first | with_reducible assumption | go_simp), (by first | with_reducible assumption | go_simp), (by first | with_reducible assumption | go_simp), (by first | with_reducible assumption | go_simp)⟩
                          · have g2 : decide (((k + 1 : Nat) : Int) < (Ts.length : Int)) = false := by rw [decide_eq_false_iff_not]; omega
                            go_wp2_with fail
                            go_meet
                            exact ⟨rfl, (fun h => absurd h (by decide)), (by repeat (first | with_reducible exact hBr | with_reducible exact Below.refl _ _ | with_reducible refine below_set ?_ (by first | omega | (dsimp only; omega)) _ | with_reducible refine balloc ?_ _ | with_reducible refine Below.drew ?_ | with_reducible refine below_drewN ?_ _ | exact hBr | exact Below.refl _ _ | refine balloc ?_ _ | refine Below.drew ?_ | refine below_drewN ?_ _ | refine below_set ?_ (by first | omega | (dsimp only; omega)) _)), (by first | with_reducible assumption | omega | (simp only [World.heap_drewN, World.size_alloc, World.size_setCell, World.size_drew]; omega)), (by first | with_reducible assumption | omega | (simp only [World.heap_drewN, World.size_alloc, World.size_setCell, World.size_drew]; omega)), (by first | with_reducible assumption | omega | (simp only [World.heap_drewN, World.size_alloc, World.size_setCell, World.size_drew]; omega)), (by first | with_reducible assumption | omega | (simp only [World.heap_drewN, World.size_alloc, World.size_setCell, World.size_drew]; omega)), (by first | with_reducible assumption | omega | (simp only [World.heap_drewN, World.size_alloc, World.size_setCell, World.size_drew]; omega)), (by first | with_reducible assumption | go_simp), (by first | with_reducible assumption | go_simp), (by first | with_reducible assumption | go_simp), (by first | with_reducible assumption | go_simp), (by first | with_reducible assumption | go_simp), (by first | with_reducible assumption | go_simp)⟩
                  case rest =>
                    obtain ⟨w18, hwq⟩ : ∃ x, x = wc := ⟨_, rfl⟩
                    subst hwq
                    obtain ⟨rfl, hK, hB18, s18_0, s18_1, s18_2, s18_3, s18_4, m18_0_0, m18_0_1, m18_0_2, m18_1_0, m18_1_1, m18_1_2⟩ := hcut
                    clear m17_0_0 m17_0_1 m17_0_2 m17_1_0 m17_1_1 m17_1_2
                    clear hB17 s17_0 s17_1 s17_2 s17_3 s17_4
                    clear h8
                    obtain ⟨s24, hs24, hK⟩ := spsl_name hK
                    subst hs24
                    replace hK := Lib.hid hK
                    go_upto_if 153 with fail
                    go_cut [13] from 153 to 156 (fun s13 wx => s13 = .int .i64 E6 ∧ (E6 = 0 → SpSl wx s24 Hs) ∧ Below w.heap.size w wx ∧ w.heap.size < wx.heap.size ∧ w.heap.size + 1 < wx.heap.size ∧ w.heap.size + 1 + 1 < wx.heap.size ∧ w2.heap.size < wx.heap.size ∧ w4.heap.size < wx.heap.size ∧ wx.cell? ⟨w.heap.size + 1, 0, none⟩ = some (.int .i64 sig.x) ∧ wx.cell? ⟨w.heap.size + 1, 1, none⟩ = some (.int .i64 sig.y) ∧ wx.cell? ⟨w.heap.size + 1, 2, none⟩ = some (.bool sig.far) ∧ wx.cell? ⟨w4.heap.size, 0, none⟩ = some (.int .i64 (⟨1189, 3667, false⟩ : Sp).x) ∧ wx.cell? ⟨w4.heap.size, 1, none⟩ = some (.int .i64 (⟨1189, 3667, false⟩ : Sp).y) ∧ wx.cell? ⟨w4.heap.size, 2, none⟩ = some (.bool (⟨1189, 3667, false⟩ : Sp).far))
                    case first =>
                      rcases h9.out with ⟨e1, e2⟩ | ⟨e1, e2⟩
                      · subst e1
                        replace e2 := Lib.hid e2
                        have hS := Lib.hid (hK.out rfl)
                        clear h9 hK
                        go_wp2_with fail
                        refine (e2.out _ (by repeat (first | with_reducible exact hB18 | with_reducible exact Below.refl _ _ | with_reducible refine below_set ?_ (by first | omega | (dsimp only; omega)) _ | with_reducible refine balloc ?_ _ | with_reducible refine Below.drew ?_ | with_reducible refine below_drewN ?_ _ | exact hB18 | exact Below.refl _ _ | refine balloc ?_ _ | refine Below.drew ?_ | refine below_drewN ?_ _ | refine below_set ?_ (by first | omega | (dsimp only; omega)) _))).mono ?_; rintro e w19 ⟨rfl, hb⟩; replace hS := Lib.hid (hS.out.below hb)
                        obtain ⟨hc19, hf19⟩ := bcell hb
                        have z19 := hb.size
                        try simp only [World.size_alloc, World.size_setCell, World.size_drew] at z19
                        have s19_0 : w.heap.size < w19.heap.size := by omega
                        have s19_1 : w.heap.size + 1 < w19.heap.size := by omega
                        have s19_2 : w.heap.size + 1 + 1 < w19.heap.size := by omega
                        have s19_3 : w2.heap.size < w19.heap.size := by omega
                        have s19_4 : w4.heap.size < w19.heap.size := by omega
                        have hB19 : Below w.heap.size w w19 := below_seq (by repeat (first | with_reducible exact hB18 | with_reducible exact Below.refl _ _ | with_reducible refine below_set ?_ (by first | omega | (dsimp only; omega)) _ | with_reducible refine balloc ?_ _ | with_reducible refine Below.drew ?_ | with_reducible refine below_drewN ?_ _ | exact hB18 | exact Below.refl _ _ | refine balloc ?_ _ | refine Below.drew ?_ | refine below_drewN ?_ _ | refine below_set ?_ (by first | omega | (dsimp only; omega)) _)) hb
                        clear hb
                        have m19_0_0 : w19.cell? ⟨w.heap.size + 1, 0, none⟩ = some (.int .i64 sig.x) := by go_simp
                        have m19_0_1 : w19.cell? ⟨w.heap.size + 1, 1, none⟩ = some (.int .i64 sig.y) := by go_simp
                        have m19_0_2 : w19.cell? ⟨w.heap.size + 1, 2, none⟩ = some (.bool sig.far) := by go_simp
                        have m19_1_0 : w19.cell? ⟨w4.heap.size, 0, none⟩ = some (.int .i64 (⟨1189, 3667, false⟩ : Sp).x) := by go_simp
                        have m19_1_1 : w19.cell? ⟨w4.heap.size, 1, none⟩ = some (.int .i64 (⟨1189, 3667, false⟩ : Sp).y) := by go_simp
                        have m19_1_2 : w19.cell? ⟨w4.heap.size, 2, none⟩ = some (.bool (⟨1189, 3667, false⟩ : Sp).far) := by go_simp
                        clear m18_0_0 m18_0_1 m18_0_2 m18_1_0 m18_1_1 m18_1_2
                        clear hc19
                        clear hB18 s18_0 s18_1 s18_2 s18_3 s18_4 hf19
                        go_wp2_with fail
                        go_meet
                        exact ⟨rfl, (fun _ => hS.out), (by repeat (first | with_reducible exact hB19 | with_reducible exact Below.refl _ _ | with_reducible refine below_set ?_ (by first | omega | (dsimp only; omega)) _ | with_reducible refine balloc ?_ _ | with_reducible refine Below.drew ?_ | with_reducible refine below_drewN ?_ _ | exact hB19 | exact Below.refl _ _ | refine balloc ?_ _ | refine Below.drew ?_ | refine below_drewN ?_ _ | refine below_set ?_ (by first | omega | (dsimp only; omega)) _)), (by first | with_reducible assumption | omega | (simp only [World.heap_drewN, World.size_alloc, World.size_setCell, World.size_drew]; omega)), (by first | with_reducible assumption | omega | (simp only [World.heap_drewN, World.size_alloc, World.size_setCell, World.size_drew]; omega)), (by first | with_reducible assumption | omega | (simp only [World.heap_drewN, World.size_alloc, World.size_setCell, World.size_drew]; omega)), (by first | with_reducible assumption | omega | (simp only [World.heap_drewN, World.size_alloc, World.size_setCell, World.size_drew]; omega)), (by first | with_reducible assumption | omega | (simp only [World.heap_drewN, World.size_alloc, World.size_setCell, World.size_drew]; omega)), (by first | with_reducible assumption | go_simp), (by first | with_reducible assumption | go_simp), (by first | with_reducible assumption | go_simp), (by first | with_reducible assumption | go_simp), (by first | with_reducible assumption | go_simp), (by first | with_reducible assumption | go_simp)⟩
                      · subst e2
                        clear h9
                        go_wp2_with fail
                        go_meet
                        exact ⟨rfl, hK.out, (by repeat (first | with_reducible exact hB18 | with_reducible exact Below.refl _ _ | with_reducible refine below_set ?_ (by first | omega | (dsimp only; omega)) _ | with_reducible refine balloc ?_ _ | with_reducible refine Below.drew ?_ | with_reducible refine below_drewN ?_ _ | exact hB18 | exact Below.refl _ _ | refine balloc ?_ _ | refine Below.drew ?_ | refine below_drewN ?_ _ | refine below_set ?_ (by first | omega | (dsimp only; omega)) _)), (by first | with_reducible assumption | omega | (simp only [World.heap_drewN, World.size_alloc, World.size_setCell, World.size_drew]; omega)), (by first | with_reducible assumption | omega | (simp only [World.heap_drewN, World.size_alloc, World.size_setCell, World.size_drew]; omega)), (by first | with_reducible assumption | omega | (simp only [World.heap_drewN, World.size_alloc, World.size_setCell, World.size_drew]; omega)), (by first | with_reducible assumption | omega | (simp only [World.heap_drewN, World.size_alloc, World.size_setCell, World.size_drew]; omega)), (by first | with_reducible assumption | omega | (simp only [World.heap_drewN, World.size_alloc, World.size_setCell, World.size_drew]; omega)), (by first | with_reducible assumption | go_simp), (by first | with_reducible assumption | go_simp), (by first | with_reducible assumption | go_simp), (by first | with_reducible assumption | go_simp), (by first | with_reducible assumption | go_simp), (by first | with_reducible assumption | go_simp)⟩
                    case rest =>
                      obtain ⟨w19, hwq⟩ : ∃ x, x = wc := ⟨_, rfl⟩
                      subst hwq
                      obtain ⟨rfl, hK2, hB19, s19_0, s19_1, s19_2, s19_3, s19_4, m19_0_0, m19_0_1, m19_0_2, m19_1_0, m19_1_1, m19_1_2⟩ := hcut
                      clear m18_0_0 m18_0_1 m18_0_2 m18_1_0 m18_1_1 m18_1_2
                      clear hB18 s18_0 s18_1 s18_2 s18_3 s18_4
                      clear h9 hK
                      replace hK2 := Lib.hid hK2
                      go_upto_block 2 with fail
                      go_cut [13, 26] from 157 to 175 (fun s13 s26 wx => s13 = .int .i64 E7 ∧ (E7 = 0 → SpSl wx s24 Hs) ∧ Below w.heap.size w wx ∧ w.heap.size < wx.heap.size ∧ w.heap.size + 1 < wx.heap.size ∧ w.heap.size + 1 + 1 < wx.heap.size ∧ w2.heap.size < wx.heap.size ∧ w4.heap.size < wx.heap.size ∧ wx.cell? ⟨w.heap.size + 1, 0, none⟩ = some (.int .i64 sig.x) ∧ wx.cell? ⟨w.heap.size + 1, 1, none⟩ = some (.int .i64 sig.y) ∧ wx.cell? ⟨w.heap.size + 1, 2, none⟩ = some (.bool sig.far) ∧ wx.cell? ⟨w4.heap.size, 0, none⟩ = some (.int .i64 (⟨1189, 3667, false⟩ : Sp).x) ∧ wx.cell? ⟨w4.heap.size, 1, none⟩ = some (.int .i64 (⟨1189, 3667, false⟩ : Sp).y) ∧ wx.cell? ⟨w4.heap.size, 2, none⟩ = some (.bool (⟨1189, 3667, false⟩ : Sp).far))
                      case first =>
                        rcases h10.out with ⟨e1, e2⟩ | ⟨e1, M, k, e2, hHl, h12, hM, hk, e4, e5, e6⟩
                        · subst e2
                          clear h10 h11 kA
                          rcases Nat.eq_zero_or_pos n4 with hm0 | hm0
                          · have g1 : decide ((0 : Int) < (n4 : Int)) = false := by rw [decide_eq_false_iff_not]; omega
                            have hm1 : ¬ 0 < n4 := by omega
                            clear hm0
                            go_wp2_with fail
                            refine wp_loop_rounds 1 ?_
                            rw [rounds_succ]
                            go_wp2_with fail
                            go_meet
                            exact ⟨rfl, hK2.out, (by repeat (first | with_reducible exact hB19 | with_reducible exact Below.refl _ _ | with_reducible refine below_set ?_ (by first | omega | (dsimp only; omega)) _ | with_reducible refine balloc ?_ _ | with_reducible refine Below.drew ?_ | with_reducible refine below_drewN ?_ _ | exact hB19 | exact Below.refl _ _ | refine balloc ?_ _ | refine Below.drew ?_ | refine below_drewN ?_ _ | refine below_set ?_ (by first | omega | (dsimp only; omega)) _)), (by first | with_reducible assumption | omega | (simp only [World.heap_drewN, World.size_alloc, World.size_setCell, World.size_drew]; omega)), (by first | with_reducible assumption | omega | (simp only [World.heap_drewN, World.size_alloc, World.size_setCell, World.size_drew]; omega)), (by first | with_reducible assumption | omega | (simp only [World.heap_drewN, World.size_alloc, World.size_setCell, World.size_drew]; omega)), (by first | with_reducible assumption | omega | (simp only [World.heap_drewN, World.size_alloc, World.size_setCell, World.size_drew]; omega)), (by first | with_reducible assumption | omega | (simp only [World.heap_drewN, World.size_alloc, World.size_setCell, World.size_drew]; omega)), (by first | with_reducible assumption | go_simp), (by first | with_reducible assumption | go_simp), (by first | with_reducible assumption | go_simp), (by first | with_reducible assumption | go_simp), (by first | with_reducible assumption | go_simp), (by first | with_reducible assumption | go_simp)⟩
                          · have g1 : decide ((0 : Int) < (n4 : Int)) = true := by rw [decide_eq_true_iff]; omega
                            go_wp2_with fail
                            refine wp_loop_rounds 1 ?_
                            rw [rounds_succ]
                            go_wp2_with fail
                            go_meet
                            exact ⟨rfl, hK2.out, (by repeat (first | with_reducible exact hB19 | with_reducible exact Below.refl _ _ | with_reducible refine below_set ?_ (by first | omega | (dsimp only; omega)) _ | with_reducible refine balloc ?_ _ | with_reducible refine Below.drew ?_ | with_reducible refine below_drewN ?_ _ | exact hB19 | exact Below.refl _ _ | refine balloc ?_ _ | refine Below.drew ?_ | refine below_drewN ?_ _ | refine below_set ?_ (by first | omega | (dsimp only; omega)) _)), (by first | with_reducible assumption | omega | (simp only [World.heap_drewN, World.size_alloc, World.size_setCell, World.size_drew]; omega)), (by first | with_reducible assumption | omega | (simp only [World.heap_drewN, World.size_alloc, World.size_setCell, World.size_drew]; omega)), (by first | with_reducible assumption | omega | (simp only [World.heap_drewN, World.size_alloc, World.size_setCell, World.size_drew]; omega)), (by first | with_reducible assumption | omega | (simp only [World.heap_drewN, World.size_alloc, World.size_setCell, World.size_drew]; omega)), (by first | with_reducible assumption | omega | (simp only [World.heap_drewN, World.size_alloc, World.size_setCell, World.size_drew]; omega)), (by first | with_reducible assumption | go_simp), (by first | with_reducible assumption | go_simp), (by first | with_reducible assumption | go_simp), (by first | with_reducible assumption | go_simp), (by first | with_reducible assumption | go_simp), (by first | with_reducible assumption | go_simp)⟩
                        · subst e1 e2
                          obtain ⟨am, cm, rfl, iS⟩ := hK2.out rfl
                          replace iS := Lib.hid iS
                          replace e4 := Lib.hid e4
                          replace e5 := Lib.hid e5
                          replace e6 := Lib.hid e6
                          replace hM := Lib.hid hM
                          replace hHl := Lib.hid hHl
                          clear h10 h11 kA hK2
                          go_wp2_with fail
                          go_loopw [13, 26] (fun e i wr => ∃ q : Nat, q ≤ M.length ∧ i = .int .i64 q ∧ ((q ≤ k ∧ e = .int .i64 0) ∨ (k < M.length ∧ q = k + 1 ∧ e = .int .i64 E7)) ∧ Below w19.heap.size w19 wr) (fun _ i _ => M.length - (intOf i).toNat)
                          case atStart => exact ⟨0, Nat.zero_le _, rfl, .inl ⟨Nat.zero_le _, rfl⟩, Below.refl _ _⟩
                          case round =>
                            obtain ⟨q, hq, rfl, hcase, hbr⟩ := hrel
                            have hBr : Below w.heap.size w wr := below_seq (by repeat (first | with_reducible exact hB19 | with_reducible exact Below.refl _ _ | with_reducible refine below_set ?_ (by first | omega | (dsimp only; omega)) _ | with_reducible refine balloc ?_ _ | with_reducible refine Below.drew ?_ | with_reducible refine below_drewN ?_ _ | exact hB19 | exact Below.refl _ _ | refine balloc ?_ _ | refine Below.drew ?_ | refine below_drewN ?_ _ | refine below_set ?_ (by first | omega | (dsimp only; omega)) _)) hbr
                            obtain ⟨hcr, hfr⟩ := bcell hbr
                            have zr := hbr.size
                            rcases hcase with ⟨hqk, rfl⟩ | ⟨hkm, rfl, rfl⟩
                            · by_cases hqm : q < M.length
                              · have hqH : q < Hs.length := by rw [hHl.out]; exact hqm
                                obtain ⟨b4, o4, rfl, hs4⟩ := hM.out (by omega)
                                obtain ⟨b5, o5, rfl, hs5⟩ := iS.out (by omega)
                                have l1 := (hs4.below hBr).cx q hqm
                                have l2 := (hs4.below hBr).cy q hqm
                                have l3 := (hs4.below hBr).cf q hqm
                                have l4 := (hs4.below hBr).lt
                                have m1 := (hs5.below hbr).cx q hqH
                                have m2 := (hs5.below hbr).cy q hqH
                                have m3 := (hs5.below hbr).cf q hqH
                                have m4 := (hs5.below hbr).lt
                                have hgood := Lib.hid (e4.out q hqH hqm)
                                have hbadq : Hid (q = k → (∀ w : World, Calls Tryd.prog 18 #[spV Hs[q], spV M[q]] w fun e w' => e = .returned (.int .i64 E7) ∧ Below w.heap.size w w') ∧ (E7 == 0) = false) := Lib.hid (fun e => by subst e; exact e5.out hqH hqm)
                                have hqHi : (q : Int) < (Hs.length : Int) := by omega
                                clear hs4 hs5 e4 e5 e6 iS hM
                                generalize M[q] = A at *
                                generalize Hs[q] = C at *
                                by_cases hqk2 : q < k
                                · have hTw := Lib.hid (hgood.out hqk2)
                                  clear hgood hbadq
                                  go_wp2_with fail
                                  refine wp_region_grow Tryd.mixed (by kernel_rfl) ?_
                                  repeat (quiet_step ((go_at_call 18; exact grow_of (hTw.out _))))
                                  refine wpQuiet_nil ?_
                                  intro _ hw'
                                  obtain ⟨x4, rfl⟩ := hw'
                                  have hb4 := Lib.hid (below_seq hbr x4.h)
                                  clear l1 l2 l3 l4 m1 m2 m3 m4 hBr hbr hcr hfr zr
                                  generalize hyw : x4.w = u4 at *
                                  clear hyw x4
                                  go_wp2
                                  go_roundw
                                  case rel => exact ⟨q + 1, by omega, by go_num, .inl ⟨by omega, rfl⟩, hb4.out⟩
                                  case measure => simp [intOf]; omega
                                · obtain rfl : q = k := by omega
                                  obtain ⟨hTw, he4⟩ := hbadq.out rfl
                                  replace hTw := Lib.hid hTw
                                  clear hgood hbadq
                                  go_wp2_with fail
                                  refine wp_region_grow Tryd.mixed (by kernel_rfl) ?_
                                  repeat (quiet_step ((go_at_call 18; exact grow_of (hTw.out _))))
                                  refine wpQuiet_nil ?_
                                  intro _ hw'
                                  obtain ⟨x4, rfl⟩ := hw'
                                  have hb4 := Lib.hid (below_seq hbr x4.h)
                                  clear l1 l2 l3 l4 m1 m2 m3 m4 hBr hbr hcr hfr zr
                                  generalize hyw : x4.w = u4 at *
                                  clear hyw x4
                                  go_wp2
                                  go_roundw
                                  case rel => exact ⟨q + 1, by omega, by go_num, .inr ⟨by omega, rfl, rfl⟩, hb4.out⟩
                                  case measure => simp [intOf]; omega
                              · have he7 : E7 = 0 := e6.out (by omega)
                                obtain rfl : q = M.length := by omega
                                have g1 : decide ((M.length : Int) < (M.length : Int)) = false := by rw [decide_eq_false_iff_not]; omega
                                subst he7
                                have hSx := Lib.hid (SpSl.below (show SpSl w19 (.slice am Hs.length cm) Hs from ⟨am, cm, rfl, iS.out⟩) hbr)
                                clear e4 e5 e6
                                go_wp2_with fail
                                go_meet
                                exact ⟨rfl, (fun _ => hSx.out), (by repeat (first | with_reducible exact hBr | with_reducible exact Below.refl _ _ | with_reducible refine below_set ?_ (by first | omega | (dsimp only; omega)) _ | with_reducible refine balloc ?_ _ | with_reducible refine Below.drew ?_ | with_reducible refine below_drewN ?_ _ | exact hBr | exact Below.refl _ _ | refine balloc ?_ _ | refine Below.drew ?_ | refine below_drewN ?_ _ | refine below_set ?_ (by first | omega | (dsimp only; omega)) _)), (by first | with_reducible assumption | omega | (simp only [World.heap_drewN, World.size_alloc, World.size_setCell, World.size_drew]; omega)), (by first | with_reducible assumption | omega | (simp only [World.heap_drewN, World.size_alloc, World.size_setCell, World.size_drew]; omega)), (by first | with_reducible assumption | omega | (simp only [World.heap_drewN, World.size_alloc, World.size_setCell, World.size_drew]; omega)), (by first | with_reducible assumption | omega | (simp only [World.heap_drewN, World.size_alloc, World.size_setCell, World.size_drew]; omega)), (by first | with_reducible assumption | omega | (simp only [World.heap_drewN, World.size_alloc, World.size_setCell, World.size_drew]; omega)), (by first | with_reducible assumption | go_simp), (by first | with_reducible assumption | go_simp), (by first | with_reducible assumption | go_simp), (by first | with_reducible assumption | go_simp), (by first | with_reducible assumption | go_simp), (by first | with_reducible assumption | go_simp)⟩
                            · have hkH : k < Hs.length := by rw [hHl.out]; exact hkm
                              obtain ⟨-, he7⟩ := e5.out hkH hkm
                              have hn0 : E7 = 0 → ∀ (wx : World) (v : Value), SpSl wx v Hs := fun h => by rw [h] at he7; exact absurd he7 (by decide)
                              replace hn0 := Lib.hid hn0
                              clear e4 e5 e6
                              rcases Nat.lt_or_ge (k + 1) M.length with hl | hl
                              · have g2 : decide (((k + 1 : Nat) : Int) < (M.length : Int)) = true := by rw [decide_eq_true_iff]; omega
                                go_wp2_with fail
                                go_meet
                                exact ⟨rfl, (fun h => hn0.out h _ _), (by repeat (first | with_reducible exact hBr | with_reducible exact Below.refl _ _ | with_reducible refine below_set ?_ (by first | omega | (dsimp only; omega)) _ | with_reducible refine balloc ?_ _ | with_reducible refine Below.drew ?_ | with_reducible refine below_drewN ?_ _ | exact hBr | exact Below.refl _ _ | refine balloc ?_ _ | refine Below.drew ?_ | refine below_drewN ?_ _ | refine below_set ?_ (by first | omega | (dsimp only; omega)) _)), (by first | with_reducible assumption | omega | (simp only [World.heap_drewN, World.size_alloc, World.size_setCell, World.size_drew]; omega)), (by first | with_reducible assumption | omega | (simp only [World.heap_drewN, World.size_alloc, World.size_setCell, World.size_drew]; omega)), (by first | with_reducible assumption | omega | (simp only [World.heap_drewN, World.size_alloc, World.size_setCell, World.size_drew]; omega)), (by first | with_reducible assumption | omega | (simp only [World.heap_drewN, World.size_alloc, World.size_setCell, World.size_drew]; omega)), (by first | with_reducible assumption | omega | (simp only [World.heap_drewN, World.size_alloc, World.size_setCell, World.size_drew]; omega)), (by first | with_reducible assumption | go_simp), (by first | with_reducible assumption | go_simp), (by first | with_reducible assumption | go_simp), (by first | with_reducible assumption | go_simp), (by first | with_reducible assumption | go_simp), (by first | with_reducible assumption | go_simp)⟩
                              · have g2 : decide (((k + 1 : Nat) : Int) < (M.length : Int)) = false := by rw [decide_eq_false_iff_not]; omega
                                go_wp2_with fail
                                go_meet
                                exact ⟨rfl, (fun h => hn0.out h _ _), (by repeat (first | with_reducible exact hBr | with_reducible exact Below.refl _ _ | with_reducible refine below_set ?_ (by first | omega | (dsimp only; omega)) _ | with_reducible refine balloc ?_ _ | with_reducible refine Below.drew ?_ | with_reducible refine below_drewN ?_ _ | exact hBr | exact Below.refl _ _ | refine balloc ?_ _ | refine Below.drew ?_ | refine below_drewN ?_ _ | refine below_set ?_ (by first | omega | (dsimp only; omega)) _)), (by first | with_reducible assumption | omega | (simp only [World.heap_drewN, World.size_alloc, World.size_setCell, World.size_drew]; omega)), (by first | with_reducible assumption | omega | (simp only [World.heap_drewN, World.size_alloc, World.size_setCell, World.size_drew]; omega)), (by first | with_reducible assumption | omega | (simp only [World.heap_drewN, World.size_alloc, World.size_setCell, World.size_drew]; omega)), (by first | with_reducible assumption | omega | (simp only [World.heap_drewN, World.size_alloc, World.size_setCell, World.size_drew]; omega)), (by first | with_reducible assumption | omega | (simp only [World.heap_drewN, World.size_alloc, World.size_setCell, World.size_drew]; omega)), (by first | with_reducible assumption | go_simp), (by first | with_reducible assumption | go_simp), (by first | with_reducible assumption | go_simp), (by first | with_reducible assumption | go_simp), (by first | with_reducible assumption | go_simp), (by first | with_reducible assumption | go_simp)⟩
                      case rest =>
                        obtain ⟨w20, hwq⟩ : ∃ x, x = wc := ⟨_, rfl⟩
                        subst hwq
                        obtain ⟨rfl, hK3, hB20, s20_0, s20_1, s20_2, s20_3, s20_4, m20_0_0, m20_0_1, m20_0_2, m20_1_0, m20_1_1, m20_1_2⟩ := hcut
                        clear m19_0_0 m19_0_1 m19_0_2 m19_1_0 m19_1_1 m19_1_2
                        clear hB19 s19_0 s19_1 s19_2 s19_3 s19_4
                        clear h10 hK2
                        replace hK3 := Lib.hid hK3
                        go_upto_region 46 with fail
                        go_cut [20] from 176 to 186 (fun s20 wx => s20 = .bool B46 ∧ Below w.heap.size w wx ∧ w.heap.size < wx.heap.size ∧ w.heap.size + 1 < wx.heap.size ∧ w.heap.size + 1 + 1 < wx.heap.size ∧ w2.heap.size < wx.heap.size ∧ w4.heap.size < wx.heap.size ∧ wx.cell? ⟨w.heap.size + 1, 0, none⟩ = some (.int .i64 sig.x) ∧ wx.cell? ⟨w.heap.size + 1, 1, none⟩ = some (.int .i64 sig.y) ∧ wx.cell? ⟨w.heap.size + 1, 2, none⟩ = some (.bool sig.far) ∧ wx.cell? ⟨w4.heap.size, 0, none⟩ = some (.int .i64 (⟨1189, 3667, false⟩ : Sp).x) ∧ wx.cell? ⟨w4.heap.size, 1, none⟩ = some (.int .i64 (⟨1189, 3667, false⟩ : Sp).y) ∧ wx.cell? ⟨w4.heap.size, 2, none⟩ = some (.bool (⟨1189, 3667, false⟩ : Sp).far))
                        case first =>
                          rcases h11.out with ⟨e1, P0, P1, Q0, Q1, e2, e3, e4⟩ | ⟨e1, e2⟩
                          · subst e1 e4
                            replace e2 := Lib.hid e2
                            replace e3 := Lib.hid e3
                            have hS := Lib.hid (hK3.out rfl)
                            clear h11 hK3
                            go_wp2_with fail
                            refine (e2.out _ (by repeat (first | with_reducible exact hB20 | with_reducible exact Below.refl _ _ | with_reducible refine below_set ?_ (by first | omega | (dsimp only; omega)) _ | with_reducible refine balloc ?_ _ | with_reducible refine Below.drew ?_ | with_reducible refine below_drewN ?_ _ | exact hB20 | exact Below.refl _ _ | refine balloc ?_ _ | refine Below.drew ?_ | refine below_drewN ?_ _ | refine below_set ?_ (by first | omega | (dsimp only; omega)) _))).mono ?_; rintro e w21 ⟨rfl, hb⟩; replace hS := Lib.hid (hS.out.below hb)
                            obtain ⟨hc21, hf21⟩ := bcell hb
                            have z21 := hb.size
                            try simp only [World.size_alloc, World.size_setCell, World.size_drew] at z21
                            have s21_0 : w.heap.size < w21.heap.size := by omega
                            have s21_1 : w.heap.size + 1 < w21.heap.size := by omega
                            have s21_2 : w.heap.size + 1 + 1 < w21.heap.size := by omega
                            have s21_3 : w2.heap.size < w21.heap.size := by omega
                            have s21_4 : w4.heap.size < w21.heap.size := by omega
                            have hB21 : Below w.heap.size w w21 := below_seq (by repeat (first | with_reducible exact hB20 | with_reducible exact Below.refl _ _ | with_reducible refine below_set ?_ (by first | omega | (dsimp only; omega)) _ | with_reducible refine balloc ?_ _ | with_reducible refine Below.drew ?_ | with_reducible refine below_drewN ?_ _ | exact hB20 | exact Below.refl _ _ | refine balloc ?_ _ | refine Below.drew ?_ | refine below_drewN ?_ _ | refine below_set ?_ (by first | omega | (dsimp only; omega)) _)) hb
                            clear hb
                            have m21_0_0 : w21.cell? ⟨w.heap.size + 1, 0, none⟩ = some (.int .i64 sig.x) := by go_simp
                            have m21_0_1 : w21.cell? ⟨w.heap.size + 1, 1, none⟩ = some (.int .i64 sig.y) := by go_simp
                            have m21_0_2 : w21.cell? ⟨w.heap.size + 1, 2, none⟩ = some (.bool sig.far) := by go_simp
                            have m21_1_0 : w21.cell? ⟨w4.heap.size, 0, none⟩ = some (.int .i64 (⟨1189, 3667, false⟩ : Sp).x) := by go_simp
                            have m21_1_1 : w21.cell? ⟨w4.heap.size, 1, none⟩ = some (.int .i64 (⟨1189, 3667, false⟩ : Sp).y) := by go_simp
                            have m21_1_2 : w21.cell? ⟨w4.heap.size, 2, none⟩ = some (.bool (⟨1189, 3667, false⟩ : Sp).far) := by go_simp
                            clear m20_0_0 m20_0_1 m20_0_2 m20_1_0 m20_1_1 m20_1_2
                            clear hc21
                            clear hB20 s20_0 s20_1 s20_2 s20_3 s20_4 hf21
                            go_wp2_with fail
                            refine (e3.out _ _ (by repeat (first | with_reducible exact hB21 | with_reducible exact Below.refl _ _ | with_reducible refine below_set ?_ (by first | omega | (dsimp only; omega)) _ | with_reducible refine balloc ?_ _ | with_reducible refine Below.drew ?_ | with_reducible refine below_drewN ?_ _ | exact hB21 | exact Below.refl _ _ | refine balloc ?_ _ | refine Below.drew ?_ | refine below_drewN ?_ _ | refine below_set ?_ (by first | omega | (dsimp only; omega)) _)) hS.out).mono ?_; rintro e w22 ⟨rfl, hb⟩
                            obtain ⟨hc22, hf22⟩ := bcell hb
                            have z22 := hb.size
                            try simp only [World.size_alloc, World.size_setCell, World.size_drew] at z22
                            have s22_0 : w.heap.size < w22.heap.size := by omega
                            have s22_1 : w.heap.size + 1 < w22.heap.size := by omega
                            have s22_2 : w.heap.size + 1 + 1 < w22.heap.size := by omega
                            have s22_3 : w2.heap.size < w22.heap.size := by omega
                            have s22_4 : w4.heap.size < w22.heap.size := by omega
                            have hB22 : Below w.heap.size w w22 := below_seq (by repeat (first | with_reducible exact hB21 | with_reducible exact Below.refl _ _ | with_reducible refine below_set ?_ (by first | omega | (dsimp only; omega)) _ | with_reducible refine balloc ?_ _ | with_reducible refine Below.drew ?_ | with_reducible refine below_drewN ?_ _ | exact hB21 | exact Below.refl _ _ | refine balloc ?_ _ | refine Below.drew ?_ | refine below_drewN ?_ _ | refine below_set ?_ (by first | omega | (dsimp only; omega)) _)) hb
                            clear hb
                            have m22_0_0 : w22.cell? ⟨w.heap.size + 1, 0, none⟩ = some (.int .i64 sig.x) := by go_simp
                            have m22_0_1 : w22.cell? ⟨w.heap.size + 1, 1, none⟩ = some (.int .i64 sig.y) := by go_simp
                            have m22_0_2 : w22.cell? ⟨w.heap.size + 1, 2, none⟩ = some (.bool sig.far) := by go_simp
                            have m22_1_0 : w22.cell? ⟨w4.heap.size, 0, none⟩ = some (.int .i64 (⟨1189, 3667, false⟩ : Sp).x) := by go_simp
                            have m22_1_1 : w22.cell? ⟨w4.heap.size, 1, none⟩ = some (.int .i64 (⟨1189, 3667, false⟩ : Sp).y) := by go_simp
                            have m22_1_2 : w22.cell? ⟨w4.heap.size, 2, none⟩ = some (.bool (⟨1189, 3667, false⟩ : Sp).far) := by go_simp
                            clear m21_0_0 m21_0_1 m21_0_2 m21_1_0 m21_1_1 m21_1_2
                            clear hc22
                            clear z21 hB21 s21_0 s21_1 s21_2 s21_3 s21_4 hf22
                            go_wp2_with fail
                            go_meet
                            exact ⟨rfl, (by repeat (first | with_reducible exact hB22 | with_reducible exact Below.refl _ _ | with_reducible refine below_set ?_ (by first | omega | (dsimp only; omega)) _ | with_reducible refine balloc ?_ _ | with_reducible refine Below.drew ?_ | with_reducible refine below_drewN ?_ _ | exact hB22 | exact Below.refl _ _ | refine balloc ?_ _ | refine Below.drew ?_ | refine below_drewN ?_ _ | refine below_set ?_ (by first | omega | (dsimp only; omega)) _)), (by first | with_reducible assumption | omega | (simp only [World.heap_drewN, World.size_alloc, World.size_setCell, World.size_drew]; omega)), (by first | with_reducible assumption | omega | (simp only [World.heap_drewN, World.size_alloc, World.size_setCell, World.size_drew]; omega)), (by first | with_reducible assumption | omega | (simp only [World.heap_drewN, World.size_alloc, World.size_setCell, World.size_drew]; omega)), (by first | with_reducible assumption | omega | (simp only [World.heap_drewN, World.size_alloc, World.size_setCell, World.size_drew]; omega)), (by first | with_reducible assumption | omega | (simp only [World.heap_drewN, World.size_alloc, World.size_setCell, World.size_drew]; omega)), (by first | with_reducible assumption | go_simp), (by first | with_reducible assumption | go_simp), (by first | with_reducible assumption | go_simp), (by first | with_reducible assumption | go_simp), (by first | with_reducible assumption | go_simp), (by first | with_reducible assumption | go_simp)⟩
                          · subst e2
                            clear h11
                            go_wp2_with fail
                            go_meet
                            exact ⟨rfl, (by repeat (first | with_reducible exact hB20 | with_reducible exact Below.refl _ _ | with_reducible refine below_set ?_ (by first | omega | (dsimp only; omega)) _ | with_reducible refine balloc ?_ _ | with_reducible refine Below.drew ?_ | with_reducible refine below_drewN ?_ _ | exact hB20 | exact Below.refl _ _ | refine balloc ?_ _ | refine Below.drew ?_ | refine below_drewN ?_ _ | refine below_set ?_ (by first | omega | (dsimp only; omega)) _)), (by first | with_reducible assumption | omega | (simp only [World.heap_drewN, World.size_alloc, World.size_setCell, World.size_drew]; omega)), (by first | with_reducible assumption | omega | (simp only [World.heap_drewN, World.size_alloc, World.size_setCell, World.size_drew]; omega)), (by first | with_reducible assumption | omega | (simp only [World.heap_drewN, World.size_alloc, World.size_setCell, World.size_drew]; omega)), (by first | with_reducible assumption | omega | (simp only [World.heap_drewN, World.size_alloc, World.size_setCell, World.size_drew]; omega)), (by first | with_reducible assumption | omega | (simp only [World.heap_drewN, World.size_alloc, World.size_setCell, World.size_drew]; omega)), (by first | with_reducible assumption | go_simp), (by first | with_reducible assumption | go_simp), (by first | with_reducible assumption | go_simp), (by first | with_reducible assumption | go_simp), (by first | with_reducible assumption | go_simp), (by first | with_reducible assumption | go_simp)⟩
                        case rest =>
                          obtain ⟨w21, hwq⟩ : ∃ x, x = wc := ⟨_, rfl⟩
                          subst hwq
                          obtain ⟨rfl, hB21, s21_0, s21_1, s21_2, s21_3, s21_4, m21_0_0, m21_0_1, m21_0_2, m21_1_0, m21_1_1, m21_1_2⟩ := hcut
                          clear m20_0_0 m20_0_1 m20_0_2 m20_1_0 m20_1_1 m20_1_2
                          clear hB20 s20_0 s20_1 s20_2 s20_3 s20_4
                          clear h11 hK3
                          go_wp2_with fail
                          refine (kA.out _ (by repeat (first | with_reducible exact hB21 | with_reducible exact Below.refl _ _ | with_reducible refine below_set ?_ (by first | omega | (dsimp only; omega)) _ | with_reducible refine balloc ?_ _ | with_reducible refine Below.drew ?_ | with_reducible refine below_drewN ?_ _ | exact hB21 | exact Below.refl _ _ | refine balloc ?_ _ | refine Below.drew ?_ | refine below_drewN ?_ _ | refine below_set ?_ (by first | omega | (dsimp only; omega)) _))).mono ?_; rintro e w22 ⟨rfl, hb⟩
                          obtain ⟨hc22, hf22⟩ := bcell hb
                          have z22 := hb.size
                          try simp only [World.size_alloc, World.size_setCell, World.size_drew] at z22
                          have s22_0 : w.heap.size < w22.heap.size := by omega
                          have s22_1 : w.heap.size + 1 < w22.heap.size := by omega
                          have s22_2 : w.heap.size + 1 + 1 < w22.heap.size := by omega
                          have s22_3 : w2.heap.size < w22.heap.size := by omega
                          have s22_4 : w4.heap.size < w22.heap.size := by omega
                          have hB22 : Below w.heap.size w w22 := below_seq (by repeat (first | with_reducible exact hB21 | with_reducible exact Below.refl _ _ | with_reducible refine below_set ?_ (by first | omega | (dsimp only; omega)) _ | with_reducible refine balloc ?_ _ | with_reducible refine Below.drew ?_ | with_reducible refine below_drewN ?_ _ | exact hB21 | exact Below.refl _ _ | refine balloc ?_ _ | refine Below.drew ?_ | refine below_drewN ?_ _ | refine below_set ?_ (by first | omega | (dsimp only; omega)) _)) hb
                          clear hb
                          have m22_0_0 : w22.cell? ⟨w.heap.size + 1, 0, none⟩ = some (.int .i64 sig.x) := by go_simp
                          have m22_0_1 : w22.cell? ⟨w.heap.size + 1, 1, none⟩ = some (.int .i64 sig.y) := by go_simp
                          have m22_0_2 : w22.cell? ⟨w.heap.size + 1, 2, none⟩ = some (.bool sig.far) := by go_simp
                          have m22_1_0 : w22.cell? ⟨w4.heap.size, 0, none⟩ = some (.int .i64 (⟨1189, 3667, false⟩ : Sp).x) := by go_simp
                          have m22_1_1 : w22.cell? ⟨w4.heap.size, 1, none⟩ = some (.int .i64 (⟨1189, 3667, false⟩ : Sp).y) := by go_simp
                          have m22_1_2 : w22.cell? ⟨w4.heap.size, 2, none⟩ = some (.bool (⟨1189, 3667, false⟩ : Sp).far) := by go_simp
                          clear m21_0_0 m21_0_1 m21_0_2 m21_1_0 m21_1_1 m21_1_2
                          clear hc22
                          clear hB21 s21_0 s21_1 s21_2 s21_3 s21_4 hf22
                          go_wp2_with fail
                          refine (error_same (errV E7) E7 _ (hE.below (by repeat (first | with_reducible exact hB22 | with_reducible exact Below.refl _ _ | with_reducible refine below_set ?_ (by first | omega | (dsimp only; omega)) _ | with_reducible refine balloc ?_ _ | with_reducible refine Below.drew ?_ | with_reducible refine below_drewN ?_ _ | exact hB22 | exact Below.refl _ _ | refine balloc ?_ _ | refine Below.drew ?_ | refine below_drewN ?_ _ | refine below_set ?_ (by first | omega | (dsimp only; omega)) _))) (Lib.hid rfl)).mono ?_; rintro e w23 ⟨rfl, hb⟩
                          obtain ⟨hc23, hf23⟩ := bcell hb
                          have z23 := hb.size
                          try simp only [World.size_alloc, World.size_setCell, World.size_drew] at z23
                          have s23_0 : w.heap.size < w23.heap.size := by omega
                          have s23_1 : w.heap.size + 1 < w23.heap.size := by omega
                          have s23_2 : w.heap.size + 1 + 1 < w23.heap.size := by omega
                          have s23_3 : w2.heap.size < w23.heap.size := by omega
                          have s23_4 : w4.heap.size < w23.heap.size := by omega
                          have hB23 : Below w.heap.size w w23 := below_seq (by repeat (first | with_reducible exact hB22 | with_reducible exact Below.refl _ _ | with_reducible refine below_set ?_ (by first | omega | (dsimp only; omega)) _ | with_reducible refine balloc ?_ _ | with_reducible refine Below.drew ?_ | with_reducible refine below_drewN ?_ _ | exact hB22 | exact Below.refl _ _ | refine balloc ?_ _ | refine Below.drew ?_ | refine below_drewN ?_ _ | refine below_set ?_ (by first | omega | (dsimp only; omega)) _)) hb
                          clear hb
                          have m23_0_0 : w23.cell? ⟨w.heap.size + 1, 0, none⟩ = some (.int .i64 sig.x) := by go_simp
                          have m23_0_1 : w23.cell? ⟨w.heap.size + 1, 1, none⟩ = some (.int .i64 sig.y) := by go_simp
                          have m23_0_2 : w23.cell? ⟨w.heap.size + 1, 2, none⟩ = some (.bool sig.far) := by go_simp
                          have m23_1_0 : w23.cell? ⟨w4.heap.size, 0, none⟩ = some (.int .i64 (⟨1189, 3667, false⟩ : Sp).x) := by go_simp
                          have m23_1_1 : w23.cell? ⟨w4.heap.size, 1, none⟩ = some (.int .i64 (⟨1189, 3667, false⟩ : Sp).y) := by go_simp
                          have m23_1_2 : w23.cell? ⟨w4.heap.size, 2, none⟩ = some (.bool (⟨1189, 3667, false⟩ : Sp).far) := by go_simp
                          clear m22_0_0 m22_0_1 m22_0_2 m22_1_0 m22_1_1 m22_1_2
                          clear hc23
                          clear z22 hB22 s22_0 s22_1 s22_2 s22_3 s22_4 hf23
                          go_wp2
                          go_ret
                          exact ⟨rfl, (by repeat (first | with_reducible exact hB23 | with_reducible exact Below.refl _ _ | with_reducible refine below_set ?_ (by first | omega | (dsimp only; omega)) _ | with_reducible refine balloc ?_ _ | with_reducible refine Below.drew ?_ | with_reducible refine below_drewN ?_ _ | exact hB23 | exact Below.refl _ _ | refine balloc ?_ _ | refine Below.drew ?_ | refine below_drewN ?_ _ | refine below_set ?_ (by first | omega | (dsimp only; omega)) _))⟩
end Go.Proofs.YtfnifdmnbccblaaDoor
namespace Go.Proofs.YtfnifdmnbccblaaDoor
open Go.RowKit
set_option maxRecDepth 100000
set_option linter.unusedVariables false
set_option linter.unusedSimpArgs false
theorem errV_ns {E : Int} (h : E ≠ 0) : errV E = .iface 118 (.int .i64 E) := by rw [errV, if_neg h]
/-- The first place where it does not hold. -/
theorem first_ns (p : Nat → Bool) : ∀ n : Nat, ∃ q, q ≤ n ∧ (∀ i, i < q → p i = true) ∧ (q < n → p q = false)
  | 0 => ⟨0, Nat.le_refl _, fun i h => absurd h (Nat.not_lt_zero _), fun h => absurd h (Nat.lt_irrefl _)⟩
  | n + 1 => by
    obtain ⟨q, h1, h2, h3⟩ := first_ns p n
    by_cases hq : q < n
    · exact ⟨q, by omega, h2, fun _ => h3 hq⟩
    · obtain rfl : q = n := by omega
      cases hp : p q
      · exact ⟨q, by omega, h2, fun _ => hp⟩
      · refine ⟨q + 1, by omega, fun i hi => ?_, fun h => absurd h (Nat.lt_irrefl _)⟩
        by_cases e : i < q
        · exact h2 i e
        · obtain rfl : i = q := by omega
          exact hp
/-- Two lists that go together: the first fault, or none. -/
theorem two_listss (L M : List Sp) (hm : M.length = L.length) : ∃ (f g : Nat → Int) (k : Nat) (E : Int), k ≤ L.length ∧
    (∀ i (h : i < L.length) (h' : i < M.length), i < k → (∀ w : World, Calls Tryd.prog 18 #[spV L[i], spV M[i]] w fun e w' => e = .returned (.int .i64 0) ∧ Below w.heap.size w w') ∧ Cnt L[i] (f i) ∧ Cnt M[i] (g i)) ∧
    (∀ (h : k < L.length) (h' : k < M.length), E ≠ 0 ∧ (∀ w : World, Calls Tryd.prog 18 #[spV L[k], spV M[k]] w fun e w' => e = .returned (.int .i64 E) ∧ Below w.heap.size w w') ∧ (∀ w : World, FarAt w → Calls Tryd.prog 87 #[spV L[k], spV M[k]] w fun e w' => e = .returned (.iface 118 (.int .i64 E)) ∧ Below w.heap.size w w')) ∧ (k = L.length → E = 0) := by
  obtain ⟨Ef, hE⟩ := Classical.axiomOfChoice (fun i : Nat => two_is (L.getD i ⟨0, 0, false⟩) (M.getD i ⟨0, 0, false⟩))
  have hc : ∀ i : Nat, ∃ p : Int × Int, Ef i = 0 → Cnt (L.getD i ⟨0, 0, false⟩) p.1 ∧ Cnt (M.getD i ⟨0, 0, false⟩) p.2 := fun i => by
    rcases (hE i).2 with ⟨_, x, y, h⟩ | ⟨h, -⟩
    · exact ⟨(x, y), fun _ => h⟩
    · exact ⟨(0, 0), fun e => absurd e h⟩
  obtain ⟨pf, hp⟩ := Classical.axiomOfChoice hc
  have gd : ∀ (l : List Sp) i (h : i < l.length), l.getD i ⟨0, 0, false⟩ = l[i] := fun l i h => by rw [List.getD_eq_getElem?_getD, List.getElem?_eq_getElem h]; rfl
  obtain ⟨k, h1, h2, h3⟩ := first_ns (fun i => Ef i == 0) L.length
  have hz : ∀ i, i < k → Ef i = 0 := fun i hi => by simpa using h2 i hi
  refine ⟨fun i => (pf i).1, fun i => (pf i).2, k, if k < L.length then Ef k else 0, h1, fun i hi hi' hik => ?_, fun hk hk' => ?_, fun e => if_neg (by omega)⟩
  · have e := hE i
    have c := hp i (hz i hik)
    rw [gd L i hi, gd M i hi'] at e c
    refine ⟨fun w => ?_, c⟩
    have := e.1 w
    rw [hz i hik] at this
    exact this
  · have e := hE k
    rw [gd L k hk, gd M k hk'] at e
    have hne : Ef k ≠ 0 := by simpa using h3 hk
    rw [if_pos hk]
    refine ⟨hne, e.1, ?_⟩
    rcases e.2 with ⟨h0, -⟩ | ⟨-, h⟩
    · exact absurd h0 hne
    · exact h
theorem cnt_base : Cnt ⟨1189, 3667, false⟩ 1 := ⟨sq_4.symm, by omega, by omega⟩
theorem ss_sign (x : Int) (t : ByteArray) (H : Sp) (hH : hSpot t.data.toList = H) (hz : t.size ≤ 140737488351232) (w : World) (hF : FarAt w) : ∃ (E1 : Int) (W1 : Sp), ((secB x = false ∧ E1 = 1 ∧ W1 = ⟨0, 0, false⟩) ∨ (secB x = true ∧ 60 < t.size ∧ E1 = 4 ∧ W1 = ⟨0, 0, false⟩) ∨ (secB x = true ∧ t.size ≤ 60 ∧ E1 = 0 ∧ SsAt w 31 #[spV H, .int .i64 x] (spV W1))) ∧
    SsAt w 13 #[.int .i64 x, .string t] (.tuple #[spV W1, errV E1]) := by
  by_cases hx : 1 ≤ x ∧ x < 1013
  · have bx : secB x = true := decide_eq_true hx
    by_cases ht : 60 < t.size
    · exact ⟨4, _, .inr (.inl ⟨bx, ht, rfl, rfl⟩), fun w1 _ => short_n2 x t w1 hx.1 hx.2 ht hz⟩
    · obtain ⟨j, -, -, hj⟩ := hSpot_four t.data.toList
      rw [hH] at hj
      exact ⟨0, sq (4 * j * x), .inr (.inr ⟨bx, by omega, rfl, fun w1 _ => refTimes_e H _ (4 * j) x w1 (by omega) (by omega) (Lib.hid hj) (Lib.hid rfl)⟩), fun w1 hb => short_y x j t H _ w1 (hF.below hb) hx.1 hx.2 (by omega) (Lib.hid hH) (Lib.hid hj) (Lib.hid rfl)⟩
  · exact ⟨1, _, .inl ⟨decide_eq_false hx, rfl, rfl⟩, fun w1 _ => short_n1 x t w1 hx⟩
/-- Two spots: what is told, and the pair. -/
theorem ss_two (a b : Sp) (w : World) (hF : FarAt w) (hO : OneAt w) : ∃ E : Int, SsAt w 18 #[spV a, spV b] (.int .i64 E) ∧
    ((E = 0 ∧ ∃ i j, Cnt a i ∧ Cnt b j ∧ SsAt w 19 #[spV a, spV b] (.agg #[.int .i64 (fz (zp (i * j)).re), .int .i64 (fz (zp (i * j)).im)]) ∧ SsAt w 20 #[spV a, spV b] (.tuple #[.agg #[.int .i64 (fz (zp (i * j)).re), .int .i64 (fz (zp (i * j)).im)], .nilIface])) ∨
      (E ≠ 0 ∧ (∀ w : World, FarAt w → Calls Tryd.prog 87 #[spV a, spV b] w fun e w' => e = .returned (.iface 118 (.int .i64 E)) ∧ Below w.heap.size w w') ∧ SsAt w 20 #[spV a, spV b] (.tuple #[.agg #[.int .i64 0, .int .i64 0], .iface 118 (.int .i64 E)]))) := by
  obtain ⟨E, hT, hc⟩ := two_is a b
  rcases hc with ⟨rfl, i, j, ci, cj⟩ | ⟨h0, hR⟩
  · exact ⟨0, fun w1 _ => hT w1, .inl ⟨rfl, i, j, ci, cj, fun w1 _ => refPair_e a b i j _ w1 (Lib.hid ci) (Lib.hid cj) (Lib.hid rfl), fun w1 hb => pair_e a b i j _ w1 (hF.below hb) (hO.below hb) (Lib.hid ci) (Lib.hid cj) (Lib.hid rfl)⟩⟩
  · exact ⟨E, fun w1 _ => hT w1, .inr ⟨h0, hR, fun w1 hb => pair_n a b E w1 (Lib.hid fun w2 hb2 => hR w2 ((hF.below hb).below hb2))⟩⟩
theorem ss_ver (t : ByteArray) (key sig H : Sp) (hH : hSpot t.data.toList = H) (hz : t.size ≤ 140737488351232) (w : World) (hF : FarAt w) (hO : OneAt w) : ∃ (E2a E2b E2 : Int) (B20 : Bool), ((60 < t.size ∧ E2a = 4) ∨ (t.size ≤ 60 ∧ E2a = 0)) ∧
    ((E2a = 0 ∧ SsAt w 18 #[spV sig, spV ⟨1189, 3667, false⟩] (.int .i64 E2b)) ∨ ((E2a == 0) = false ∧ E2b = E2a)) ∧ ((E2b = 0 ∧ SsAt w 18 #[spV H, spV key] (.int .i64 E2)) ∨ ((E2b == 0) = false ∧ E2 = E2b)) ∧
    ((E2 = 0 ∧ ∃ X0 X1 Y0 Y1 : Int, SsAt w 19 #[spV sig, spV ⟨1189, 3667, false⟩] (.agg #[.int .i64 X0, .int .i64 X1]) ∧ SsAt w 19 #[spV H, spV key] (.agg #[.int .i64 Y0, .int .i64 Y1]) ∧ twB X0 X1 Y0 Y1 = B20) ∨ ((E2 == 0) = false ∧ B20 = false)) ∧
    SsAt w 14 #[spV key, .string t, spV sig] (.tuple #[.bool B20, errV E2]) := by
  by_cases ht : 60 < t.size
  · exact ⟨4, 4, 4, false, .inl ⟨ht, rfl⟩, .inr ⟨rfl, rfl⟩, .inr ⟨rfl, rfl⟩, .inr ⟨rfl, rfl⟩, fun w1 _ => sverify_4 key sig t w1 ht hz⟩
  · have ht' : t.size ≤ 60 := by omega
    obtain ⟨Es, kT, hs⟩ := ss_two sig ⟨1189, 3667, false⟩ w hF hO
    rcases hs with ⟨rfl, i, j, ci, cj, kP, -⟩ | ⟨h0, hR, -⟩
    · obtain ⟨Eh, kH, hh⟩ := ss_two H key w hF hO
      rcases hh with ⟨rfl, k, l, ck, cl, kP2, -⟩ | ⟨h0, hR, -⟩
      · exact ⟨0, 0, 0, _, .inr ⟨ht', rfl⟩, .inl ⟨rfl, kT⟩, .inl ⟨rfl, kH⟩, .inl ⟨rfl, _, _, _, _, kP, kP2, rfl⟩, fun w1 hb => sverify_c key sig H t _ _ w1 (hF.below hb) ht' (Lib.hid hH) (Lib.hid fun w2 hb2 => same_b sig _ H key i j k l _ _ _ w2 ((hF.below hb).below hb2) ((hO.below hb).below hb2) (Lib.hid ci) (Lib.hid cj) (Lib.hid ck) (Lib.hid cl) (Lib.hid rfl) (Lib.hid rfl) (Lib.hid rfl))⟩
      · have hb0 : (Eh == 0) = false := by simpa using h0
        exact ⟨0, 0, Eh, false, .inr ⟨ht', rfl⟩, .inl ⟨rfl, kT⟩, .inl ⟨rfl, kH⟩, .inr ⟨hb0, rfl⟩, fun w1 hb => by rw [errV_ns h0]; exact sverify_c key sig H t _ _ w1 (hF.below hb) ht' (Lib.hid hH) (Lib.hid fun w2 hb2 => same_n2 sig _ H key i j Eh w2 ((hF.below hb).below hb2) (Lib.hid ci) (Lib.hid cj) (Lib.hid hR))⟩
    · have hb0 : (Es == 0) = false := by simpa using h0
      exact ⟨0, Es, Es, false, .inr ⟨ht', rfl⟩, .inl ⟨rfl, kT⟩, .inr ⟨hb0, rfl⟩, .inr ⟨hb0, rfl⟩, fun w1 hb => by rw [errV_ns h0]; exact sverify_c key sig H t _ _ w1 (hF.below hb) ht' (Lib.hid hH) (Lib.hid fun w2 hb2 => same_n1 sig _ H key Es w2 ((hF.below hb).below hb2) (Lib.hid hR))⟩
theorem ss_join (L : List Sp) (a4 : Option Addr) (c4 : Nat) (m4 : L.length ≤ 9223372036854775807) (w : World) (hF : FarAt w) (i4 : 0 < L.length → ∃ b o, a4 = some ⟨b, o, none⟩ ∧ SpotsAt w b o L) : ∃ (E3 : Int) (W3 : Sp), SsAt w 44 #[.slice a4 L.length c4] (.int .i64 E3) ∧
    ((E3 = 0 ∧ SsAt w 72 #[.slice a4 L.length c4] (spV W3)) ∨ ((E3 == 0) = false ∧ W3 = ⟨0, 0, false⟩)) ∧ SsAt w 16 #[.slice a4 L.length c4] (.tuple #[spV W3, errV E3]) := by
  have i4' : ∀ w1, Below w.heap.size w w1 → (0 < L.length → ∃ b o, a4 = some ⟨b, o, none⟩ ∧ SpotsAt w1 b o L) := fun w1 hb h => by obtain ⟨b, o, e, hs⟩ := i4 h; exact ⟨b, o, e, hs.below hb⟩
  by_cases h12 : 12 < L.length
  · exact ⟨4, _, fun w1 _ => refSpots_full _ a4 c4 w1 h12 m4, .inr ⟨rfl, rfl⟩, fun w1 _ => join_full _ a4 c4 w1 h12 m4⟩
  · rcases first_bad L with hok | ⟨k, hk, hok, hbad⟩
    · have hall : ∀ i : Nat, ∃ u : Int, ∀ h : i < L.length, L[i] = sq u := fun i => by
        by_cases h : i < L.length
        · obtain ⟨u, -, -, e⟩ := sq_all (hok i h); exact ⟨u, fun _ => e⟩
        · exact ⟨0, fun h' => absurd h' h⟩
      obtain ⟨f, hf⟩ := Classical.axiomOfChoice hall
      refine ⟨0, sq (sumF f L.length), fun w1 hb => ?_, .inl ⟨rfl, fun w1 hb => rJoin_c L f a4 c4 w1 (by omega) (i4' w1 hb) (Lib.hid fun k h => hf k h)⟩, fun w1 hb => ?_⟩
      · by_cases h0 : L.length = 0
        · rw [h0]; exact refSpots_nil a4 c4 w1
        · obtain ⟨b, o, rfl, hs⟩ := i4' w1 hb (by omega)
          exact refSpots_core L b o c4 w1 (by omega) hs L.length (Nat.le_refl _) 0 (fun i hi _ => (ok_iff _).mpr (hok i hi)) (fun h => absurd h (Nat.lt_irrefl _)) (fun _ => rfl)
      · exact join_core L f L.length 0 a4 c4 _ w1 (hF.below hb) (by omega) (i4' w1 hb) (Lib.hid fun k h _ => hf k h) (Nat.le_refl _) (Lib.hid fun h => absurd h (Nat.lt_irrefl _)) (Lib.hid fun h => absurd h (Nat.lt_irrefl _)) (Lib.hid fun _ => rfl)
    · have hb0 : (sCheck L[k] == 0) = false := by simpa using hbad
      have hall : ∀ i : Nat, ∃ u : Int, ∀ h : i < L.length, i < k → L[i] = sq u := fun i => by
        by_cases h : i < L.length
        · by_cases hik : i < k
          · obtain ⟨u, -, -, e⟩ := sq_all (hok i h hik); exact ⟨u, fun _ _ => e⟩
          · exact ⟨0, fun _ h' => absurd h' hik⟩
        · exact ⟨0, fun h' => absurd h' h⟩
      obtain ⟨f, hf⟩ := Classical.axiomOfChoice hall
      refine ⟨sCheck L[k], ⟨0, 0, false⟩, fun w1 hb => ?_, .inr ⟨hb0, rfl⟩, fun w1 hb => ?_⟩
      · obtain ⟨b, o, rfl, hs⟩ := i4' w1 hb (by omega)
        exact refSpots_core L b o c4 w1 (by omega) hs k (Nat.le_of_lt hk) _ (fun i hi hik => (ok_iff _).mpr (hok i hi hik)) (fun h => ⟨by simpa using hbad, rfl⟩) (fun e => absurd hk (by omega))
      · rw [errV_ns hbad]
        exact join_core L f k (sCheck L[k]) a4 c4 _ w1 (hF.below hb) (by omega) (i4' w1 hb) (Lib.hid fun i h hik => hf i h hik) (Nat.le_of_lt hk) (Lib.hid fun _ => ⟨rfl, hbad⟩) (Lib.hid fun _ => rfl) (Lib.hid fun e => absurd hk (by omega))
theorem ss_all (L : List Sp) (Ts : List ByteArray) (sig : Sp) (a4 a5 : Option Addr) (c4 c5 : Nat) (m4 : L.length ≤ 9223372036854775807) (m5 : Ts.length ≤ 9223372036854775807) (hTz : ∀ s ∈ Ts, s.size ≤ 140737488351232) (w : World) (hF : FarAt w) (hO : OneAt w) (i4 : 0 < L.length → ∃ b o, a4 = some ⟨b, o, none⟩ ∧ SpotsAt w b o L) (i5 : 0 < Ts.length → ∃ b o, a5 = some ⟨b, o, none⟩ ∧ StrsAt w b o Ts) :
    ∃ (B122 B46 : Bool) (E4 E5 E6 E7 : Int), ((12 < L.length ∧ B122 = true) ∨ (L.length ≤ 12 ∧ 12 < Ts.length ∧ B122 = true) ∨ (L.length ≤ 12 ∧ Ts.length ≤ 12 ∧ B122 = false)) ∧ ((B122 = true ∧ E4 = 4) ∨ (B122 = false ∧ ((L.length : Int) != (Ts.length : Int)) = true ∧ E4 = 3) ∨ (B122 = false ∧ ((L.length : Int) != (Ts.length : Int)) = false ∧ E4 = 0)) ∧
    (((E4 == 0) = false ∧ E5 = E4) ∨ (E4 = 0 ∧ ∃ k : Nat, Ts.length = Ts.length ∧ Ts.length ≤ 12 ∧ (hSpots Ts).length = Ts.length ∧ (0 < Ts.length → ∃ b o, a5 = some ⟨b, o, none⟩ ∧ StrsAt w b o Ts) ∧ k ≤ Ts.length ∧
      (∀ i (h : i < Ts.length) (h' : i < (hSpots Ts).length), ∀ w1 : World, Below w.heap.size w w1 → Calls Tryd.prog 70 #[.string Ts[i]] w1 fun e w' => e = .returned (spV (hSpots Ts)[i]) ∧ Below w1.heap.size w1 w') ∧
      (∀ i (h : i < Ts.length), i < k → Ts[i].size ≤ 60) ∧ (∀ (h : k < Ts.length), 60 < Ts[k].size ∧ Ts[k].size ≤ 140737488351232 ∧ E5 = 4) ∧ (k = Ts.length → E5 = 0))) ∧
    ((E5 = 0 ∧ SsAt w 18 #[spV sig, spV ⟨1189, 3667, false⟩] (.int .i64 E6)) ∨ ((E5 == 0) = false ∧ E6 = E5)) ∧
    (((E6 == 0) = false ∧ E7 = E6) ∨ (E6 = 0 ∧ ∃ (M : List Sp) (k : Nat), L.length = M.length ∧ (hSpots Ts).length = M.length ∧ M.length ≤ 12 ∧ (0 < M.length → ∃ b o, a4 = some ⟨b, o, none⟩ ∧ SpotsAt w b o M) ∧ k ≤ M.length ∧
      (∀ i (h : i < (hSpots Ts).length) (h' : i < M.length), i < k → (∀ w : World, Calls Tryd.prog 18 #[spV (hSpots Ts)[i], spV M[i]] w fun e w' => e = .returned (.int .i64 0) ∧ Below w.heap.size w w')) ∧ (∀ (h : k < (hSpots Ts).length) (h' : k < M.length), (∀ w : World, Calls Tryd.prog 18 #[spV (hSpots Ts)[k], spV M[k]] w fun e w' => e = .returned (.int .i64 E7) ∧ Below w.heap.size w w') ∧ (E7 == 0) = false) ∧ (k = M.length → E7 = 0))) ∧
    ((E7 = 0 ∧ ∃ P0 P1 Q0 Q1 : Int, SsAt w 19 #[spV sig, spV ⟨1189, 3667, false⟩] (.agg #[.int .i64 P0, .int .i64 P1]) ∧ (∀ (w1 : World) (v : Value), Below w.heap.size w w1 → SpSl w1 v (hSpots Ts) → Calls Tryd.prog 73 #[v, .slice a4 L.length c4] w1 fun e w' => e = .returned (.agg #[.int .i64 Q0, .int .i64 Q1]) ∧ Below w1.heap.size w1 w') ∧ twB P0 P1 Q0 Q1 = B46) ∨ ((E7 == 0) = false ∧ B46 = false)) ∧
    SsAt w 17 #[.slice a4 L.length c4, .slice a5 Ts.length c5, spV sig] (.tuple #[.bool B46, errV E7]) := by
  by_cases hl : 12 < L.length
  · exact ⟨true, false, 4, 4, 4, 4, .inl ⟨hl, rfl⟩, .inl ⟨rfl, rfl⟩, .inl ⟨rfl, rfl⟩, .inr ⟨rfl, rfl⟩, .inl ⟨rfl, rfl⟩, .inr ⟨rfl, rfl⟩, fun w1 _ => sall_full1 _ _ a4 a5 c4 c5 sig w1 hl m4 m5⟩
  by_cases hm : 12 < Ts.length
  · exact ⟨true, false, 4, 4, 4, 4, .inr (.inl ⟨by omega, hm, rfl⟩), .inl ⟨rfl, rfl⟩, .inl ⟨rfl, rfl⟩, .inr ⟨rfl, rfl⟩, .inl ⟨rfl, rfl⟩, .inr ⟨rfl, rfl⟩, fun w1 _ => sall_full2 _ _ a4 a5 c4 c5 sig w1 (by omega) hm m5⟩
  by_cases hn : L.length = Ts.length
  case neg =>
    exact ⟨false, false, 3, 3, 3, 3, .inr (.inr ⟨by omega, by omega, rfl⟩), .inr (.inl ⟨rfl, by rw [bne_iff_ne]; omega, rfl⟩), .inl ⟨rfl, rfl⟩, .inr ⟨rfl, rfl⟩, .inl ⟨rfl, rfl⟩, .inr ⟨rfl, rfl⟩, fun w1 _ => sall_shape _ _ a4 a5 c4 c5 sig w1 (by omega) (by omega) hn⟩
  have hn1 : ((L.length : Int) != (Ts.length : Int)) = false := by rw [hn]; simp
  have hHl := hSpots_len Ts
  have i4' : ∀ w1, Below w.heap.size w w1 → (0 < L.length → ∃ b o, a4 = some ⟨b, o, none⟩ ∧ SpotsAt w1 b o L) := fun w1 hb h => by obtain ⟨b, o, e, hs⟩ := i4 h; exact ⟨b, o, e, hs.below hb⟩
  have i5' : ∀ w1, Below w.heap.size w w1 → (0 < Ts.length → ∃ b o, a5 = some ⟨b, o, none⟩ ∧ StrsAt w1 b o Ts) := fun w1 hb h => by obtain ⟨b, o, e, hs⟩ := i5 h; exact ⟨b, o, e, hs.below hb⟩
  have hOf : ∀ i (h : i < Ts.length) (h' : i < (hSpots Ts).length), ∀ w1 : World, Below w.heap.size w w1 → Calls Tryd.prog 70 #[.string Ts[i]] w1 fun e w' => e = .returned (spV (hSpots Ts)[i]) ∧ Below w1.heap.size w1 w' := fun i h h' w1 hb => by
    rw [hSpots_get Ts i h h']
    exact refOf_c Ts[i] w1 (hF.below hb) (hTz _ (List.getElem_mem h))
  obtain ⟨k, hk1, hk2, hk3⟩ := first_ns (fun i => decide ((Ts.getD i ⟨#[]⟩).size ≤ 60)) Ts.length
  have gd : ∀ i (h : i < Ts.length), Ts.getD i ⟨#[]⟩ = Ts[i] := fun i h => by rw [List.getD_eq_getElem?_getD, List.getElem?_eq_getElem h]; rfl
  have hgood : ∀ i (h : i < Ts.length), i < k → Ts[i].size ≤ 60 := fun i h hik => by
    have := hk2 i hik
    rw [gd i h] at this
    exact of_decide_eq_true this
  by_cases hkl : k < Ts.length
  · have hbk : 60 < Ts[k].size ∧ Ts[k].size ≤ 140737488351232 := by
      have := hk3 hkl
      rw [gd k hkl] at this
      exact ⟨by have := of_decide_eq_false this; omega, hTz _ (List.getElem_mem hkl)⟩
    refine ⟨false, false, 0, 4, 4, 4, .inr (.inr ⟨by omega, by omega, rfl⟩), .inr (.inr ⟨rfl, hn1, rfl⟩), .inr ⟨rfl, k, rfl, by omega, hHl, i5, hk1, hOf, hgood, fun _ => ⟨hbk.1, hbk.2, rfl⟩, fun e => absurd hkl (by omega)⟩, .inr ⟨rfl, rfl⟩, .inl ⟨rfl, rfl⟩, .inr ⟨rfl, rfl⟩, fun w1 hb => ?_⟩
    exact sall_core L.length a4 c4 Ts a5 c5 sig k _ w1 (hF.below hb) hn (by omega) (i5' w1 hb) hk1 (Lib.hid hgood) (Lib.hid fun _ => hbk) (Lib.hid fun _ => rfl) (Lib.hid fun e => absurd hkl (by omega))
  have hke : k = Ts.length := by omega
  have h8 : ((0 : Int) == 0) = false ∧ (0 : Int) = 0 ∨ (0 : Int) = 0 ∧ ∃ k : Nat, Ts.length = Ts.length ∧ Ts.length ≤ 12 ∧ (hSpots Ts).length = Ts.length ∧ (0 < Ts.length → ∃ b o, a5 = some ⟨b, o, none⟩ ∧ StrsAt w b o Ts) ∧ k ≤ Ts.length ∧
      (∀ i (h : i < Ts.length) (h' : i < (hSpots Ts).length), ∀ w1 : World, Below w.heap.size w w1 → Calls Tryd.prog 70 #[.string Ts[i]] w1 fun e w' => e = .returned (spV (hSpots Ts)[i]) ∧ Below w1.heap.size w1 w') ∧
      (∀ i (h : i < Ts.length), i < k → Ts[i].size ≤ 60) ∧ (∀ (h : k < Ts.length), 60 < Ts[k].size ∧ Ts[k].size ≤ 140737488351232 ∧ (0 : Int) = 4) ∧ (k = Ts.length → (0 : Int) = 0) :=
    .inr ⟨rfl, k, rfl, by omega, hHl, i5, hk1, hOf, hgood, fun h => absurd h hkl, fun _ => rfl⟩
  obtain ⟨Es, kT, hs⟩ := ss_two sig ⟨1189, 3667, false⟩ w hF hO
  have hcore : ∀ (R : Value) (w1 : World), Below w.heap.size w w1 → _ → _ := fun R w1 hb => sall_core L.length a4 c4 Ts a5 c5 sig k R w1 (hF.below hb) hn (by omega) (i5' w1 hb) hk1 (Lib.hid hgood) (Lib.hid fun h => absurd h hkl) (Lib.hid fun h => absurd h hkl)
  rcases hs with ⟨rfl, i, j, ci, cj, kP, kPP⟩ | ⟨h0, hR, kPP⟩
  · obtain ⟨f, g, q, E, hq, hgd, hbd, hen⟩ := two_listss (hSpots Ts) L (by omega)
    have hprod : ∀ (R : Value) (w1 : World) (v : Value), Below w.heap.size w w1 → SpSl w1 v (hSpots Ts) → (q < (hSpots Ts).length → R = .tuple #[.agg #[.int .i64 0, .int .i64 0], .iface 118 (.int .i64 E)]) → (q = (hSpots Ts).length → R = .tuple #[twR (zp (prodN (fun k => f k * g k) (hSpots Ts).length)), .nilIface]) → Calls Tryd.prog 24 #[v, .slice a4 L.length c4] w1 fun e w' => e = .returned R ∧ Below w1.heap.size w1 w' := by
      intro R w1 v hb hv hr0 hr1
      obtain ⟨av, cv, rfl, iv⟩ := hv
      exact product_core (hSpots Ts) L f g q E av a4 cv c4 R w1 (hF.below hb) (hO.below hb) (by omega) (by omega) iv (i4' w1 hb) (Lib.hid fun i h h' hik => (hgd i h h' hik).2) hq (Lib.hid fun h h' => (hbd h h').2.2) (Lib.hid hr0) (Lib.hid hr1)
    by_cases hql : q < L.length
    · have hb := hbd (by omega) hql
      have hE0 : (E == 0) = false := by simpa using hb.1
      refine ⟨false, false, 0, 0, 0, E, .inr (.inr ⟨by omega, by omega, rfl⟩), .inr (.inr ⟨rfl, hn1, rfl⟩), h8, .inl ⟨rfl, kT⟩, .inr ⟨rfl, L, q, rfl, by omega, by omega, i4, by omega, fun i h h' hik => (hgd i h h' hik).1, fun h h' => ⟨(hbd h h').2.1, hE0⟩, fun e => absurd hql (by omega)⟩, .inr ⟨hE0, rfl⟩, fun w1 hb1 => ?_⟩
      rw [errV_ns hb.1]
      exact hcore _ w1 hb1 (Lib.hid fun _ => .inr ⟨_, _, fun w2 hb2 => kPP w2 (below_seq hb1 hb2), .inl ⟨E, fun w2 v hb2 hv => hprod _ w2 v (below_seq hb1 hb2) hv (fun _ => rfl) (fun e => absurd hql (by omega)), rfl⟩⟩)
    · have hqe : q = (hSpots Ts).length := by omega
      refine ⟨false, twB (fz (zp (i * j)).re) (fz (zp (i * j)).im) (fz (zp (prodN (fun k => f k * g k) (hSpots Ts).length)).re) (fz (zp (prodN (fun k => f k * g k) (hSpots Ts).length)).im), 0, 0, 0, 0, .inr (.inr ⟨by omega, by omega, rfl⟩), .inr (.inr ⟨rfl, hn1, rfl⟩), h8, .inl ⟨rfl, kT⟩, .inr ⟨rfl, L, q, rfl, by omega, by omega, i4, by omega, fun i h h' hik => (hgd i h h' hik).1, fun h h' => absurd h' hql, fun _ => rfl⟩, .inl ⟨rfl, _, _, fz (zp (prodN (fun k => f k * g k) (hSpots Ts).length)).re, fz (zp (prodN (fun k => f k * g k) (hSpots Ts).length)).im, kP, fun w1 v hb1 hv => ?_, rfl⟩, fun w1 hb1 => ?_⟩
      · obtain ⟨av, cv, rfl, iv⟩ := hv
        exact rPairs_c (hSpots Ts) L f g av a4 cv c4 w1 (by omega) (by omega) iv (i4' w1 hb1) (Lib.hid fun i h h' => (hgd i h h' (by omega)).2)
      · exact hcore _ w1 hb1 (Lib.hid fun _ => .inr ⟨_, _, fun w2 hb2 => kPP w2 (below_seq hb1 hb2), .inr ⟨_, _, fun w2 v hb2 hv => hprod _ w2 v (below_seq hb1 hb2) hv (fun h => absurd h (by omega)) (fun _ => rfl), rfl⟩⟩)
  · have hb0 : (Es == 0) = false := by simpa using h0
    refine ⟨false, false, 0, 0, Es, Es, .inr (.inr ⟨by omega, by omega, rfl⟩), .inr (.inr ⟨rfl, hn1, rfl⟩), h8, .inl ⟨rfl, kT⟩, .inl ⟨hb0, rfl⟩, .inr ⟨hb0, rfl⟩, fun w1 hb1 => ?_⟩
    rw [errV_ns h0]
    exact hcore _ w1 hb1 (Lib.hid fun _ => .inl ⟨Es, fun w2 hb2 => kPP w2 (below_seq hb1 hb2), rfl⟩)
theorem shortTells_law (x : Int) (wx : (Lit.int .i64 x).wf = true) (t : ByteArray) (hz : t.size ≤ 140737488351232) (key sig : Sp) (v4 v5 : Value) (w : World) (o4 : SpotsV w v4) (o5 : StrsV w v5) (hL : (FarAt w ∧ OneAt w) ∧ ErrAt w) :
    Calls Tryd.prog 10 #[.int .i64 x, .string t, spV key, spV sig, v4, v5] w fun e w' => e = .returned (.bool true) ∧ Below w.heap.size w w' := by
  obtain ⟨⟨hF, hO⟩, hE⟩ := hL
  obtain ⟨L, ⟨a4, c4, rfl, i4⟩, m4⟩ := o4.sl
  obtain ⟨Ts, ⟨a5, c5, rfl, i5⟩, m5, hTz⟩ := o5
  obtain ⟨E1, W1, h1, kSg⟩ := ss_sign x t _ rfl hz w hF
  obtain ⟨E2a, E2b, E2, B20, h2, h3, h4, h5, kV⟩ := ss_ver t key sig _ rfl hz w hF hO
  obtain ⟨E3, W3, kSp, h6, kJ⟩ := ss_join L a4 c4 m4 w hF i4
  obtain ⟨B122, B46, E4, E5, E6, E7, h7a, h7, h8, h9, h10, h11, kA⟩ := ss_all L Ts sig a4 a5 c4 c5 m4 m5 hTz w hF hO i4 i5
  exact ss_core x t key sig _ a4 a5 L.length Ts.length c4 c5 Ts (hSpots Ts) w hE hF hz m4 m5 _ B20 B46 B122 E1 E2a E2b E2 E3 E4 E5 E6 E7 W1 W3 (Lib.hid rfl) (Lib.hid fun w1 hb => refOf_c t w1 (hF.below hb) hz) (Lib.hid h1) (Lib.hid kSg) (Lib.hid h2) (Lib.hid h3) (Lib.hid h4) (Lib.hid h5) (Lib.hid kV) (Lib.hid kSp) (Lib.hid h6) (Lib.hid kJ) (Lib.hid h7a) (Lib.hid h7) (Lib.hid h8) (Lib.hid h9) (Lib.hid h10) (Lib.hid h11) (Lib.hid kA)
end Go.Proofs.YtfnifdmnbccblaaDoor
namespace Go.Proofs.YtfnifdmnbccblaaDoor
open Go.ChangeShapes Go.WideShapes Go.ChangeAt Go.WideMaps Go.WideElems Go.RowKit
set_option maxRecDepth 100000
abbrev farLaid : List (String × DataW Unit) := [("pairstone/curve.Far", Rows.laid_pairstone_curve_Far)]
theorem gFar : Tryd.prog.globalNamed "pairstone/curve.Far" = some 0 := by kernel_rfl
theorem tFar : (Tryd.prog.globals[0]?).map (·.type) = some 25 := by kernel_rfl
/-- The door's own heap meets the condition. -/
theorem farLaid_met (os : Os) (args : Array Value) : laidMetH Tryd.prog farLaid ((World.doorLaid Tryd.prog 400 os).forCall (fun _ _ => 0) ⟨#[], args, []⟩).memory :=
  laidMetH_of_parts3 (fuel := 8) (laidMet_of_run' 8 (by kernel_rfl) (by kernel_rfl)) (by kernel_rfl) (by kernel_rfl)
theorem lt_of_cell {w : World} {b o : Nat} {v : Value} (h : w.cell? ⟨b, o, none⟩ = some v) : b < w.heap.size := by
  rcases Nat.lt_or_ge b w.heap.size with h1 | h1
  · exact h1
  · simp [World.cell?, Array.getElem?_eq_none h1] at h
theorem farLaid_at {W : World} (h : laidMetH Tryd.prog farLaid W) : FarAt W := by
  rw [MakeChecks.laidMetH_plain _ _ _ (by kernel_rfl)] at h
  obtain ⟨ps, ⟨g0, t0, cs0, f0, p0, q0, hg0, ht0, hv0, hd0, _, _⟩, _, _⟩ := h
  obtain rfl := Option.some.inj (gFar.symm.trans hg0)
  obtain rfl := Option.some.inj (tFar.symm.trans ht0)
  obtain ⟨y0, y1, y2, n, hx, hlen, h0, h1, h2⟩ := Deep.trod_struct3 Tryd.underlying25 hd0
  simp only [Rows.laid_pairstone_curve_Far, Prod.mk.injEq, DataW.agg.injEq, List.cons.injEq, and_true] at hx
  obtain ⟨⟨e0, e1, e2⟩, _⟩ := hx
  obtain ⟨a, c0, rfl, _⟩ := DataW.trod_int Tryd.underlying3 h0
  obtain ⟨b, c1, rfl, _⟩ := DataW.trod_int Tryd.underlying3 h1
  obtain ⟨f, c2, rfl⟩ := DataW.trod_bool Tryd.underlying4 h2
  have k3 : Tryd.prog.cellsOf 25 = 3 := by kernel_rfl
  have ki : Tryd.prog.cellsOf 3 = 1 := by kernel_rfl
  have kb : Tryd.prog.cellsOf 4 = 1 := by kernel_rfl
  obtain ⟨l⟩ := cs0
  have h3 : l.length = 3 := by simpa using hlen.trans k3
  match l, h3 with
  | [x, y, z], _ =>
    simp [ki, kb] at c0 c1 c2
    subst c0 c1 c2
    have v0 := World.var?_cell hg0 hv0 0
    have v1 := World.var?_cell hg0 hv0 1
    have v2 := World.var?_cell hg0 hv0 2
    simp at e0 e1 e2 v0 v1 v2
    subst e0 e1 e2
    exact ⟨v0, v1, v2, lt_of_cell v0⟩
end Go.Proofs.YtfnifdmnbccblaaDoor
namespace Go.Proofs.YtfnifdmnbccblaaDoor
open Go.ChangeShapes Go.WideShapes Go.ChangeAt Go.WideMaps Go.WideElems Go.RowKit
set_option maxRecDepth 100000
theorem trod_struct2 {H : Type} {enc : TypeId × Value → H} {P : Program} {w : World} {base : Nat} {spare : Nat → Bool} {held : Bool} {t : TypeId} {f0 f1 : Field} {fuel : Nat} {cs : List Value} {x : DataW H × List MemPlace} (ht : P.underlying t = some (.struct #[f0, f1])) (h : DataW.trod enc P w base spare held fuel t cs = some x) :
    ∃ y0 y1 n, x = (.agg [y0.1, y1.1], y0.2 ++ y1.2) ∧ cs.length = P.cellsOf t ∧ DataW.trod enc P w base spare held n f0.type ((cs.drop f0.offset).take (P.cellsOf f0.type)) = some y0 ∧
      DataW.trod enc P w base spare held n f1.type ((cs.drop f1.offset).take (P.cellsOf f1.type)) = some y1 := by
  obtain ⟨xs, n, _, rfl, hl, hlen, hf⟩ := DataW.trod_struct ht h
  match xs, hlen with
  | [y0, y1], _ => exact ⟨y0, y1, n, by simp, hl, by simpa using hf 0 f0 rfl, by simpa using hf 1 f1 rfl⟩
abbrev oneLaid : List (String × DataW Unit) := [("pairstone/curve.Far", Rows.laid_pairstone_curve_Far), ("pairstone/pair.one", Rows.laid_pairstone_pair_one)]
theorem gOne : Tryd.prog.globalNamed "pairstone/pair.one" = some 1 := by kernel_rfl
theorem tOne : (Tryd.prog.globals[1]?).map (·.type) = some 40 := by kernel_rfl
theorem oneLaid_met (os : Os) (args : Array Value) : laidMetH Tryd.prog oneLaid ((World.doorLaid Tryd.prog 400 os).forCall (fun _ _ => 0) ⟨#[], args, []⟩).memory :=
  laidMetH_of_parts3 (fuel := 8) (laidMet_of_run' 8 (by kernel_rfl) (by kernel_rfl)) (by kernel_rfl) (by kernel_rfl)
theorem oneLaid_at {W : World} (h : laidMetH Tryd.prog oneLaid W) : FarAt W ∧ OneAt W := by
  rw [MakeChecks.laidMetH_plain _ _ _ (by kernel_rfl)] at h
  obtain ⟨ps, ⟨g0, t0, cs0, f0, p0, q0, hg0, ht0, hv0, hd0, ⟨g1, t1, cs1, f1, p1, q1, hg1, ht1, hv1, hd1, _, _⟩, _⟩, _, _⟩ := h
  refine ⟨?_, ?_⟩
  · obtain rfl := Option.some.inj (gFar.symm.trans hg0)
    obtain rfl := Option.some.inj (tFar.symm.trans ht0)
    obtain ⟨y0, y1, y2, n, hx, hlen, h0, h1, h2⟩ := Deep.trod_struct3 Tryd.underlying25 hd0
    simp only [Rows.laid_pairstone_curve_Far, Prod.mk.injEq, DataW.agg.injEq, List.cons.injEq, and_true] at hx
    obtain ⟨⟨e0, e1, e2⟩, _⟩ := hx
    obtain ⟨a, c0, rfl, _⟩ := DataW.trod_int Tryd.underlying3 h0
    obtain ⟨b, c1, rfl, _⟩ := DataW.trod_int Tryd.underlying3 h1
    obtain ⟨f, c2, rfl⟩ := DataW.trod_bool Tryd.underlying4 h2
    have k3 : Tryd.prog.cellsOf 25 = 3 := by kernel_rfl
    have ki : Tryd.prog.cellsOf 3 = 1 := by kernel_rfl
    have kb : Tryd.prog.cellsOf 4 = 1 := by kernel_rfl
    obtain ⟨l⟩ := cs0
    have h3 : l.length = 3 := by simpa using hlen.trans k3
    match l, h3 with
    | [x, y, z], _ =>
      simp [ki, kb] at c0 c1 c2
      subst c0 c1 c2
      have v0 := World.var?_cell hg0 hv0 0
      have v1 := World.var?_cell hg0 hv0 1
      have v2 := World.var?_cell hg0 hv0 2
      simp at e0 e1 e2 v0 v1 v2
      subst e0 e1 e2
      exact ⟨v0, v1, v2, lt_of_cell v0⟩
  · obtain rfl := Option.some.inj (gOne.symm.trans hg1)
    obtain rfl := Option.some.inj (tOne.symm.trans ht1)
    obtain ⟨y0, y1, n, hx, hlen, h0, h1⟩ := trod_struct2 Tryd.underlying40 hd1
    simp only [Rows.laid_pairstone_pair_one, Prod.mk.injEq, DataW.agg.injEq, List.cons.injEq, and_true] at hx
    obtain ⟨⟨e0, e1⟩, _⟩ := hx
    obtain ⟨a, c0, rfl, _⟩ := DataW.trod_int Tryd.underlying3 h0
    obtain ⟨b, c1, rfl, _⟩ := DataW.trod_int Tryd.underlying3 h1
    have k2 : Tryd.prog.cellsOf 40 = 2 := by kernel_rfl
    have ki : Tryd.prog.cellsOf 3 = 1 := by kernel_rfl
    obtain ⟨l⟩ := cs1
    have h3 : l.length = 2 := by simpa using hlen.trans k2
    match l, h3 with
    | [x, y], _ =>
      simp [ki] at c0 c1
      subst c0 c1
      have v0 := World.var?_cell hg1 hv1 0
      have v1 := World.var?_cell hg1 hv1 1
      simp at e0 e1 v0 v1
      subst e0 e1
      exact ⟨v0, v1, lt_of_cell v0⟩
end Go.Proofs.YtfnifdmnbccblaaDoor
namespace Go.Proofs.YtfnifdmnbccblaaDoor
open Go.ChangeShapes Go.WideShapes Go.ChangeAt Go.WideMaps Go.WideElems Go.RowKit
set_option maxRecDepth 100000
theorem gErr : Tryd.prog.globalNamed "errors.errorType" = some 2 := by kernel_rfl
theorem cutR : (Tryd.prog.cutTypes.find? (·.1 == "internal/reflectlite.rtype")).map (·.2) = some 183 := by kernel_rfl
theorem rowError : ((List.range Tryd.prog.types.size).filter fun t => Tryd.prog.rowNamed t [101, 114, 114, 111, 114]) = [27] := by kernel_rfl
/-- What the condition on the variable says of its cell. -/
theorem err_of_handles {l : List (String × DataW Unit)} {W : World} (h : handlesMet Tryd.prog l W) (hm : ("errors.errorType", Rows.laid_errors_errorType) ∈ l) : ErrAt W := by
  obtain ⟨name, u, ty, e1, e2, e3, e4, e5⟩ := h _ hm
  have en : name = [101, 114, 114, 111, 114] := (Option.some.inj e1).symm
  subst en
  obtain rfl := Option.some.inj (cutR.symm.trans e2)
  have hm : ty ∈ (List.range Tryd.prog.types.size).filter fun t => Tryd.prog.rowNamed t [101, 114, 114, 111, 114] := List.mem_filter.2 ⟨List.mem_range.2 e3, e4⟩
  rw [rowError] at hm
  obtain rfl := List.mem_singleton.1 hm
  have hh : typeHandle Tryd.prog 27 = .pointer (some ⟨3, 27, none⟩) := by kernel_rfl
  rw [hh] at e5
  have v := World.var?_cell gErr e5 0
  simp at v
  exact ⟨v, lt_of_cell v⟩
abbrev errLaid : List (String × DataW Unit) := [("errors.errorType", Rows.laid_errors_errorType)]
abbrev farErrLaid : List (String × DataW Unit) := [("pairstone/curve.Far", Rows.laid_pairstone_curve_Far), ("errors.errorType", Rows.laid_errors_errorType)]
theorem errLaid_met (os : Os) (args : Array Value) : laidMetH Tryd.prog errLaid ((World.doorLaid Tryd.prog 400 os).forCall (fun _ _ => 0) ⟨#[], args, []⟩).memory :=
  laidMetH_of_parts ⟨[], rfl, List.nodup_nil, fun _ _ h => by cases h⟩ (by kernel_rfl)
theorem farErrLaid_met (os : Os) (args : Array Value) : laidMetH Tryd.prog farErrLaid ((World.doorLaid Tryd.prog 400 os).forCall (fun _ _ => 0) ⟨#[], args, []⟩).memory :=
  laidMetH_of_parts (laidMet_of_run' 8 (by kernel_rfl) (by kernel_rfl)) (by kernel_rfl)
theorem errLaid_at {W : World} (h : laidMetH Tryd.prog errLaid W) : ErrAt W := by
  have h' : laidMet Tryd.prog [] W ∧ handlesMet Tryd.prog errLaid W := h
  exact err_of_handles h'.2 (by simp)
theorem farErrLaid_at {W : World} (h : laidMetH Tryd.prog farErrLaid W) : FarAt W ∧ ErrAt W := by
  have h' : laidMet Tryd.prog farLaid W ∧ handlesMet Tryd.prog errLaid W := h
  exact ⟨farLaid_at (by rw [MakeChecks.laidMetH_plain _ _ _ (by kernel_rfl)]; exact h'.1), err_of_handles h'.2 (by simp)⟩
end Go.Proofs.YtfnifdmnbccblaaDoor
namespace Go.Proofs.YtfnifdmnbccblaaDoor
open Go.ChangeShapes Go.WideShapes Go.ChangeAt Go.WideMaps Go.WideElems Go.RowKit
set_option maxRecDepth 100000
abbrev allLaid : List (String × DataW Unit) := [("pairstone/curve.Far", Rows.laid_pairstone_curve_Far), ("pairstone/pair.one", Rows.laid_pairstone_pair_one), ("errors.errorType", Rows.laid_errors_errorType)]
theorem allLaid_met (os : Os) (args : Array Value) : laidMetH Tryd.prog allLaid ((World.doorLaid Tryd.prog 400 os).forCall (fun _ _ => 0) ⟨#[], args, []⟩).memory :=
  laidMetH_of_parts (laidMet_of_run' 8 (by kernel_rfl) (by kernel_rfl)) (by kernel_rfl)
theorem allLaid_at {W : World} (h : laidMetH Tryd.prog allLaid W) : (FarAt W ∧ OneAt W) ∧ ErrAt W := by
  have h' : laidMet Tryd.prog oneLaid W ∧ handlesMet Tryd.prog errLaid W := h
  exact ⟨oneLaid_at (by rw [MakeChecks.laidMetH_plain _ _ _ (by kernel_rfl)]; exact h'.1), err_of_handles h'.2 (by simp)⟩
end Go.Proofs.YtfnifdmnbccblaaDoor
namespace Go.Proofs.YtfnifdmnbccblaaDoor
open Go.RowKit
set_option maxRecDepth 100000
theorem headL : ∃ l : List Char, Tryd.prog.initOrder = String.ofList l ∧ ((behindMainWord (wordsSigns l)).head? = some "cut".toList ∧
    (match wordsSigns l with
      | h :: s :: _ => if !isSumSigns s then none else if h == "harness".toList then some (true, s) else if h == "ownmain".toList then some (false, s) else none
      | _ => none) = some (true, "8bff7fe31cad154e1d9054f52751277758ee41cf373a73bb2e4a30f27c527906".toList)) := by
  refine ⟨?l, ?h1, ?h2, ?h3⟩
  case h1 =>
    unfold Tryd.prog
    first | rfl | (dsimp only; rfl)
  case h2 => kernel_rfl
  case h3 => kernel_rfl
theorem headCut : ∃ r, behindMainWord (wordsSigns Tryd.prog.initOrder.toList) = "cut".toList :: r := by
  obtain ⟨l, h, hw, -⟩ := headL
  rw [h, String.toList_ofList]
  cases e : behindMainWord (wordsSigns l) with
  | nil => rw [e] at hw; cases hw
  | cons c r => rw [e] at hw; exact ⟨r, by rw [Option.some.inj hw]⟩
theorem mainIsK : Tryd.prog.mainIs = some (true, "8bff7fe31cad154e1d9054f52751277758ee41cf373a73bb2e4a30f27c527906".toList) := by
  obtain ⟨l, h, -, hm⟩ := headL
  unfold Program.mainIs; rw [h, String.toList_ofList]; exact hm
theorem mayEnterK : Tryd.prog.mayEnter = true := by
  obtain ⟨r, h⟩ := headCut
  unfold Program.mayEnter; rw [h]; kernel_rfl
theorem headLiftsK : Tryd.prog.headLifts = [] := by
  obtain ⟨r, h⟩ := headCut
  unfold Program.headLifts; rw [h]; kernel_rfl
theorem liftsFinalK : Tryd.prog.liftsFinal = false := by
  obtain ⟨r, h⟩ := headCut
  unfold Program.liftsFinal; rw [h, headLiftsK]; kernel_rfl
theorem makeK : Tryd.prog.make = some .cut := by
  obtain ⟨r, h⟩ := headCut
  unfold Program.make; rw [h]; kernel_rfl
end Go.Proofs.YtfnifdmnbccblaaDoor
namespace Go.Proofs.YtfnifdmnbccblaaDoor.shortTells
open Go.ChangeShapes Go.WideShapes Go.ChangeAt Go.RowKit
set_option linter.unusedVariables false
theorem typesOk : ([3, 9, 25, 25, 34, 23].all fun t => Tryd.prog.readableRec t && decide (t < Tryd.prog.types.size)) = true := by kernel_rfl
set_option maxRecDepth 100000 in
theorem lifted (os : Os) (started : os.Started) (H : Type) (enc : TypeId × Value → H) :
    ReturnsInHanded {} Tryd.checked os 10 .any (fun w args => (Rows.shortTellsSpec.pre enc Tryd.prog Tryd.f10 [] false w args ∧ laidMetH Tryd.prog allLaid w) ∧ sizedMet enc Tryd.prog Tryd.f10 (OpenSpec.ofChange Rows.shortTellsSpec) false w args)
      (Rows.shortTellsSpec.post enc Tryd.prog Tryd.f10 false true false false) := by
  refine returnsInHanded_of_change_and (C := Tryd.checked) (X := fun w _ => laidMetH Tryd.prog allLaid w) (fun _ _ _ hh h => h.of_heap hh) Tryd.ownK started (by kernel_rfl) Tryd.func10
    (ChangeSpec.witness_shaped (enc := enc) (C := Tryd.checked) (os := os) (X := fun w _ => laidMetH Tryd.prog allLaid w) false (World.doorLaid Tryd.prog 400 os) #[.int .i64 0, .string ⟨#[]⟩, .agg #[.int .i64 0, .int .i64 0, .bool false], .agg #[.int .i64 0, .int .i64 0, .bool false], .slice none 0 0, .slice none 0 0] 8 rfl (World.shaped_of_RefB (by kernel_rfl) (by kernel_rfl)) (by kernel_rfl) (by kernel_rfl) (by kernel_rfl) (allLaid_met os _)) ?_
  intro W base args ds gs before hval0 hW hcnd hsz0 hL hholds
  have hval : ∀ (j : Nat) t v, Tryd.f10.params[j]? = some t → args[j]? = some v → Value.okWide Tryd.prog W .any base t v := hval0
  have hW' := hW
  obtain ⟨p, q, hA0, hV, rfl, hfz, hnd⟩ := hW
  have hA : DataW.TrodAll enc Tryd.prog W 0 (fun _ => true) true Tryd.f10.params.toList args.toList ds p := hA0
  obtain ⟨rfl, rfl⟩ := trodVars_none hV
  simp only [List.append_nil] at hW'
  have hlt : ∀ x ∈ p, x.block < W.heap.size := fun x hx => hW'.lt x hx
  have hsz : (DataW.weightsEach Tryd.prog (Tryd.f10.params.toList ++ Rows.shortTellsSpec.plain.varTypes Tryd.prog) (ds ++ [])).all (· ≤ reachBytes) = true := hsz0
  rw [Tryd.params10] at hA hval hsz
  have hK := hA
  obtain ⟨v0, vs0, d0, ds0, p0, q0, hargs, rfl, rfl, h0, r0⟩ := trodAll_cons hA
  obtain ⟨v1, vs1, d1, ds1, p1, q1, rfl, rfl, rfl, h1, r1⟩ := trodAll_cons r0
  obtain ⟨v2, vs2, d2, ds2, p2, q2, rfl, rfl, rfl, h2, r2⟩ := trodAll_cons r1
  obtain ⟨v3, vs3, d3, ds3, p3, q3, rfl, rfl, rfl, h3, r3⟩ := trodAll_cons r2
  obtain ⟨v4, vs4, d4, ds4, p4, q4, rfl, rfl, rfl, h4, r4⟩ := trodAll_cons r3
  obtain ⟨v5, vs5, d5, ds5, p5, q5, rfl, rfl, rfl, h5, r5⟩ := trodAll_cons r4
  obtain ⟨rfl, rfl, rfl⟩ := trodAll_nil r5
  obtain rfl : args = #[v0, v1, v2, v3, v4, v5] := by cases args; simp_all
  obtain ⟨a0, rfl, rfl, rfl, w0⟩ := open_int Tryd.underlying3 (hval 0 3 v0 rfl rfl) h0
  obtain ⟨a1, rfl, rfl, rfl, w1⟩ := ChangeMaps.open_string Tryd.underlying9 (hval 1 9 v1 rfl rfl) h1
  obtain ⟨a2, b2, f2, rfl, w2, u2⟩ := open_spot Tryd.underlying25 (by kernel_rfl) (by kernel_rfl) Tryd.underlying3 Tryd.underlying3 Tryd.underlying4 (hval 2 25 v2 rfl rfl) h2
  obtain ⟨a3, b3, f3, rfl, w3, u3⟩ := open_spot Tryd.underlying25 (by kernel_rfl) (by kernel_rfl) Tryd.underlying3 Tryd.underlying3 Tryd.underlying4 (hval 3 25 v3 rfl rfl) h3
  have o4 := open_spots Tryd.underlying34 Tryd.underlying25 (by kernel_rfl) (by kernel_rfl) Tryd.underlying3 Tryd.underlying3 Tryd.underlying4 (hval 4 34 v4 rfl rfl) h4
  have o5 := open_strl Tryd.underlying23 Tryd.underlying9 (by kernel_rfl) (hval 5 23 v5 rfl rfl) h5 hsz (j := 5) rfl rfl
  have z1 : a1.size ≤ 140737488351232 := by have := sized_string hsz (j := 1) (t := 9) rfl rfl; simpa [reachBytes] using this
  clear hA0 hval0
  refine (shortTells_law a0 w0 a1 z1 ⟨a2, b2, f2⟩ ⟨a3, b3, f3⟩ v4 v5 W o4 o5 (allLaid_at hL)).mono fun e W' ⟨he, hg⟩ => ?_
  subst he
  exact ⟨_, rfl, post_of_below (pa := _) (pv := []) hW' (fun _ _ _ => (trodAll_cons_mk (shut_bool Tryd.underlying4 _) trodAll_mk0)) (fun sp hsp => trodAll_stays Tryd.laidOutK hg typesOk hK (fun x hx => ⟨hlt x hx, hsp x (by first | exact hx | (simp at hx) | simpa using hx)⟩)) (fun _ _ => rfl) (by simp) hg (ok_one (by kernel_rfl) rfl (okWide_bool_mk Tryd.underlying4 _))⟩

theorem over : Rows.shortTellsRow.holds Tryd.pinned (OpenSpec.ofChange Rows.shortTellsSpec) :=
  OpenClaim.holds_of_wide 10 Tryd.f10 rfl rfl rfl rfl rfl rfl rfl ⟨rfl, rfl, rfl, rfl, rfl⟩ rfl rfl rfl rfl rfl (by kernel_rfl) Tryd.func10 (by show joinedFacts Tryd.prog _ _ _ _ = true; unfold joinedFacts; rw [mayEnterK, liftsFinalK, makeK]; kernel_rfl)
    (of_decide_eq_true (by kernel_rfl)) (by unfold Func.isWrapper; first | (rw [if_pos (by decide +kernel)]; kernel_rfl) | (rw [if_neg (by decide +kernel)]; exact ⟨rfl, rfl⟩))
    (fun os started H enc _ => lifted os started H enc)
theorem card : Rows.ShortTellsCardSaid :=
  Claim7.holds_tied_plain_at .later [] [.data, .data, .handle] true (true, "8bff7fe31cad154e1d9054f52751277758ee41cf373a73bb2e4a30f27c527906") true
    over (fun _ h => by cases h) (by kernel_rfl) (fun _ h => by cases h) shortTells_row_tie rfl ⟨rfl, rfl⟩ mainIsK rfl
    (fun f fn hf hfn => by
      obtain rfl : f = 10 := Option.some.inj ((show Tryd.prog.funcNamed "pairstone/stonelaw2.ShortTells" = some 10 by kernel_rfl).symm.trans hf) |>.symm
      obtain rfl : fn = Tryd.f10 := (Option.some.inj (Tryd.func10.symm.trans hfn)).symm
      exact ⟨by kernel_rfl, fun j t ht => by
        rw [Tryd.params10] at ht
        have hm : t ∈ ([3, 9, 25, 25, 34, 23] : List TypeId) := by simpa using Array.mem_of_getElem? ht
        have hall : (([3, 9, 25, 25, 34, 23] : List TypeId).all fun u => !Tryd.prog.wantsStandIn u) = true := by kernel_rfl
        exact (show Tryd.prog.wantsStandIn t = false by simpa using List.all_eq_true.1 hall t hm)⟩)
    (by kernel_rfl)
#print axioms card
end Go.Proofs.YtfnifdmnbccblaaDoor.shortTells
