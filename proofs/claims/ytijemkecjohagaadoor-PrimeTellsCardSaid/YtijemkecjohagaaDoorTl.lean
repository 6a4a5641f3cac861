/- What an error is told as: errors.As at the one kind of error that there is; stonesame.Error. -/
import Derived.Test.YtijemkecjohagaaDoorWb
import Derived.Test.YtijemkecjohagaaDoorWv
import Derived.LaidEql
import Derived.Stop.Asserts
import Derived.RowKitTokens
namespace Go.Proofs.YtijemkecjohagaaDoor
open Go.RowKit Go.Extern.Stop Go.Stop Go.Extern
set_option maxRecDepth 100000
set_option linter.unusedVariables false
set_option linter.unusedSimpArgs false
/-- The variable errors.errorType reads as laid. -/
def ErrAt (w : World) : Prop := w.cell? ⟨2, 0, none⟩ = some (.iface 183 (.agg #[.pointer (some ⟨3, 26, none⟩)])) ∧ 2 < w.heap.size
theorem ErrAt.below {w w' : World} (h : ErrAt w) (hb : Below w.heap.size w w') : ErrAt w' := ⟨((bcell hb).1 _ _ h.2).trans h.1, Nat.lt_of_lt_of_le h.2 hb.size⟩
/-! The model's entries for reflectlite, at this program's types. -/
theorem rl_value (t : Addr) (w : World) : (ReflectliteValue.unpack (.iface 161 (.pointer (some t)))).run Tryd.prog w
    = .ok (.agg #[.pointer (some ⟨3, 161, none⟩), .pointer (some ⟨w.heap.size, 0, none⟩), .int .u64 150]) (w.alloc (.cells #[.pointer (some t)] 161)) := by kernel_rfl
theorem rl_type (a : Addr) (w : World) : (ReflectliteValue.methodAny (ReflectliteValue.valueError "reflectlite.Value.Type" 0) (fun t _ _ _ => ReflectliteType.toType t) #[.agg #[.pointer (some ⟨3, 161, none⟩), .pointer (some a), .int .u64 150]]).run Tryd.prog w
    = .ok (.iface 183 (.agg #[.pointer (some ⟨3, 161, none⟩)])) w := by kernel_rfl
theorem rl_kindm (h : Value) (w : World) : (Go.method 325 183 (.agg #[h]) "Kind").run Tryd.prog w = .ok (171, h) w := by kernel_rfl
theorem rl_kind (w : World) : ((ReflectliteType.abiMethod fun t => Functor.map (fun a : Nat => Value.int IntKind.u8 (a : Int)) (Rtype.kind t)) #[.pointer (some ⟨3, 161, none⟩)]).run Tryd.prog w = .ok (.int .u8 22) w := by kernel_rfl
theorem rl_kinde (w : World) : ((ReflectliteType.abiMethod fun t => Functor.map (fun a : Nat => Value.int IntKind.u8 (a : Int)) (Rtype.kind t)) #[.pointer (some ⟨3, 130, none⟩)]).run Tryd.prog w = .ok (.int .u8 2) w := by kernel_rfl
theorem rl_m (z : Sem Value) (f : TypeId → Addr → Nat → Nat → Sem Value) (v : Value) :
    ReflectliteValue.method z f #[v] = (do match ← ReflectliteValue.parts v with | none => z | some (t, a, fl) => f t a fl (fl % 32)) := rfl
theorem rl_parts (a : Addr) (w : World) : (ReflectliteValue.parts (.agg #[.pointer (some ⟨3, 161, none⟩), .pointer (some a), .int .u64 150])).run Tryd.prog w = .ok (some (161, a, 150)) w := by kernel_rfl
theorem rl_nil (a p : Addr) (W : World) (ha : W.cell? a = some (.pointer (some p))) :
    (ReflectliteValue.method (ReflectliteValue.valueError "reflectlite.Value.IsNil" 0) ReflectliteValue.isNil #[.agg #[.pointer (some ⟨3, 161, none⟩), .pointer (some a), .int .u64 150]]).run Tryd.prog W = .ok (.bool false) W := by
  rw [rl_m]
  simp only [Sem.run_bind, rl_parts, Result.andThen]
  simp [ReflectliteValue.isNil, loadVar, isAgg, underlying, Tryd.underlying161, ha, Result.andThen]
theorem rl_elemm (h : Value) (w : World) : (Go.method 325 183 (.agg #[h]) "Elem").run Tryd.prog w = .ok (181, .agg #[h]) w := by kernel_rfl
theorem rl_implm (h : Value) (w : World) : (Go.method 325 183 (.agg #[h]) "Implements").run Tryd.prog w = .ok (182, .agg #[h]) w := by kernel_rfl
theorem rl_assm (h : Value) (w : World) : (Go.method 325 183 (.agg #[h]) "AssignableTo").run Tryd.prog w = .ok (179, .agg #[h]) w := by kernel_rfl
theorem rl_elem (w : World) : (ReflectliteType.method ReflectliteType.elem #[.agg #[.pointer (some ⟨3, 161, none⟩)]]).run Tryd.prog w = .ok (.iface 183 (.agg #[.pointer (some ⟨3, 130, none⟩)])) w := by kernel_rfl
theorem rl_impl (w : World) : (ReflectliteType.relation "Implements" ReflectliteType.implements_ #[.agg #[.pointer (some ⟨3, 130, none⟩)], .iface 183 (.agg #[.pointer (some ⟨3, 26, none⟩)])]).run Tryd.prog w = .ok (.bool true) w := by kernel_rfl
theorem rl_typeof (v : Value) (w : World) : (ReflectliteType.typeOf #[.iface 130 v]).run Tryd.prog w = .ok (.iface 183 (.agg #[.pointer (some ⟨3, 130, none⟩)])) w := by kernel_rfl
theorem rl_ass (w : World) : (ReflectliteType.relation "AssignableTo" ReflectliteType.assignableTo #[.agg #[.pointer (some ⟨3, 130, none⟩)], .iface 183 (.agg #[.pointer (some ⟨3, 130, none⟩)])]).run Tryd.prog w = .ok (.bool true) w := by kernel_rfl
theorem rl_valuee (k : Int) (w : World) : (ReflectliteValue.unpack (.iface 130 (.int .i64 k))).run Tryd.prog w
    = .ok (.agg #[.pointer (some ⟨3, 130, none⟩), .pointer (some ⟨w.heap.size, 0, none⟩), .int .u64 130]) (w.alloc (.cells #[.int .i64 k] 130)) := by kernel_rfl
theorem rl_elemof (w : World) : (Rtype.elem? 161).run Tryd.prog w = .ok (some 130) w := by kernel_rfl
theorem rl_mk (p : Addr) (w : World) : (ReflectliteValue.mk 130 p ReflectliteValue.flagAddr).run Tryd.prog w = .ok (.agg #[.pointer (some ⟨3, 130, none⟩), .pointer (some p), .int .u64 386]) w := by kernel_rfl
theorem rl_elemv (a p : Addr) (W : World) (ha : W.cell? a = some (.pointer (some p))) :
    (ReflectliteValue.method (ReflectliteValue.valueError "reflectlite.Value.Elem" 0) ReflectliteValue.elem #[.agg #[.pointer (some ⟨3, 161, none⟩), .pointer (some a), .int .u64 150]]).run Tryd.prog W
      = .ok (.agg #[.pointer (some ⟨3, 130, none⟩), .pointer (some p), .int .u64 386]) W := by
  rw [rl_m]
  simp only [Sem.run_bind, rl_parts, Result.andThen]
  simp [ReflectliteValue.elem, loadVar, isAgg, underlying, Tryd.underlying161, ha, Result.andThen, rl_elemof, rl_mk]
theorem rl_s (v x : Value) : ReflectliteValue.set #[v, x] = (do
    let (some (dst, a, fl), some (src, b, _)) := (← ReflectliteValue.parts v, ← ReflectliteValue.parts x)
      | unsupported (.noEntry "extern/(internal/reflectlite.Value).Set.zeroValue")
    if fl / ReflectliteValue.flagAddr % 2 == 0 then unsupported (.noEntry "extern/(internal/reflectlite.Value).Set.unaddressable")
    let val ← loadVar src b
    if ← Rtype.directlyAssignable dst src then storeVar dst a val
    else if ← Rtype.implements dst src then
      if (← Rtype.kind src) == 20 then
        match val with
        | .nilIface => unsupported (.noEntry "extern/reflectlite: a nil value of one interface type handed on as a value of another")
        | _ => storeVar dst a val
      else storeVar dst a (.iface src val)
    else panicString ("reflectlite.Set: value of type " ++ (← Rtype.spelt src) ++ " is not assignable to type " ++ (← Rtype.spelt dst))
    pure (.tuple #[])) := rfl
theorem rl_partsa (a : Addr) (w : World) : (ReflectliteValue.parts (.agg #[.pointer (some ⟨3, 130, none⟩), .pointer (some a), .int .u64 386])).run Tryd.prog w = .ok (some (130, a, 386)) w := by kernel_rfl
theorem rl_partse (a : Addr) (w : World) : (ReflectliteValue.parts (.agg #[.pointer (some ⟨3, 130, none⟩), .pointer (some a), .int .u64 130])).run Tryd.prog w = .ok (some (130, a, 130)) w := by kernel_rfl
theorem rl_direct (w : World) : (Rtype.directlyAssignable 130 130).run Tryd.prog w = .ok true w := by kernel_rfl
theorem rl_set (ta b : Addr) (k : Int) (old : Value) (W : World) (hb : W.cell? b = some (.int .i64 k)) (ht : W.cell? ta = some old) (hf : W.frozen? ta = false) :
    (ReflectliteValue.set #[.agg #[.pointer (some ⟨3, 130, none⟩), .pointer (some ta), .int .u64 386], .agg #[.pointer (some ⟨3, 130, none⟩), .pointer (some b), .int .u64 130]]).run Tryd.prog W
      = .ok (.tuple #[]) (W.setCell ta (.int .i64 k)) := by
  rw [rl_s]
  simp only [Sem.run_bind, rl_partsa, rl_partse, Result.andThen]
  simp [ReflectliteValue.flagAddr, loadVar, isAgg, underlying, Tryd.underlying130, hb, Result.andThen, rl_direct, storeVar, Value.cells, storeCells, Addr.add]
  rw [run_store Tryd.prog W ta _ _ (by rfl)]
  simp [ht, hf]
set_option maxHeartbeats 4000000 in
theorem as_hit (k : Int) (t : Addr) (old : Value) (w : World) (hg : w.cell? ⟨2, 0, none⟩ = some (.iface 183 (.agg #[.pointer (some ⟨3, 26, none⟩)]))) (hgl : 2 < w.heap.size) (ht0 : w.cell? t = some old) (hf0 : w.frozen? t = false) :
    Calls Tryd.prog 141 #[.iface 130 (.int .i64 k), .iface 161 (.pointer (some t))] w fun ev w' => ev = .returned (.bool true) ∧ w' = ((((w.alloc (.cells #[.pointer (some t)] 161)).alloc (.cells #[.pointer (some ⟨3, 161, none⟩), .pointer (some ⟨w.heap.size, 0, none⟩), .int .u64 150] 172)).alloc (.cells #[.pointer (some ⟨3, 161, none⟩), .pointer (some ⟨w.heap.size, 0, none⟩), .int .u64 150] 172)).alloc (.cells #[.int .i64 k] 130)).setCell t (.int .i64 k) := by
  have h6 := @run_callFunc_extern Tryd.prog 149 _ (fun args => ReflectliteValue.unpack (args.getD 0 (.tuple #[]))) Tryd.func149 (by kernel_rfl) (by kernel_rfl) (by kernel_rfl) (by kernel_rfl)
  have h7 := @run_callFunc_extern Tryd.prog 150 _ (ReflectliteValue.methodAny (ReflectliteValue.valueError "reflectlite.Value.Type" 0) (fun t _ _ _ => ReflectliteType.toType t)) Tryd.func150 (by kernel_rfl) (by kernel_rfl) (by kernel_rfl) (by kernel_rfl)
  have h8 := @run_callFunc_extern Tryd.prog 151 _ (ReflectliteValue.method (ReflectliteValue.valueError "reflectlite.Value.IsNil" 0) ReflectliteValue.isNil) Tryd.func151 (by kernel_rfl) (by kernel_rfl) (by kernel_rfl) (by kernel_rfl)
  have h27 := @run_callFunc_extern Tryd.prog 171 _ (ReflectliteType.abiMethod fun t => do pure (.int .u8 (← Rtype.kind t))) Tryd.func171 (by kernel_rfl) (by kernel_rfl) (by kernel_rfl) (by kernel_rfl)
  have h37 := @run_callFunc_extern Tryd.prog 181 _ (ReflectliteType.method ReflectliteType.elem) Tryd.func181 (by kernel_rfl) (by kernel_rfl) (by kernel_rfl) (by kernel_rfl)
  have h38 := @run_callFunc_extern Tryd.prog 182 _ (ReflectliteType.relation "Implements" ReflectliteType.implements_) Tryd.func182 (by kernel_rfl) (by kernel_rfl) (by kernel_rfl) (by kernel_rfl)
  have h10 := @run_callFunc_extern Tryd.prog 154 _ (ReflectliteType.typeOf) Tryd.func154 (by kernel_rfl) (by kernel_rfl) (by kernel_rfl) (by kernel_rfl)
  have h35 := @run_callFunc_extern Tryd.prog 179 _ (ReflectliteType.relation "AssignableTo" ReflectliteType.assignableTo) Tryd.func179 (by kernel_rfl) (by kernel_rfl) (by kernel_rfl) (by kernel_rfl)
  have h11 := @run_callFunc_extern Tryd.prog 155 _ (ReflectliteValue.method (ReflectliteValue.valueError "reflectlite.Value.Elem" 0) ReflectliteValue.elem) Tryd.func155 (by kernel_rfl) (by kernel_rfl) (by kernel_rfl) (by kernel_rfl)
  have h12 := @run_callFunc_extern Tryd.prog 156 _ (ReflectliteValue.set) Tryd.func156 (by kernel_rfl) (by kernel_rfl) (by kernel_rfl) (by kernel_rfl)
  have tO := rl_typeof
  have mA := rl_assm
  have a25 := rl_ass
  have v25 := rl_valuee
  have f6 := rl_value
  have f7 := rl_type
  have mK := rl_kindm
  have mE := rl_elemm
  have mI := rl_implm
  have k27 := rl_kind
  have k25 := rl_kinde
  have e27 := rl_elem
  have i25 := rl_impl
  have n8 := rl_nil ⟨w.heap.size, 0, none⟩ t ((w.alloc (.cells #[.pointer (some t)] 161)).alloc (.cells #[.pointer (some ⟨3, 161, none⟩), .pointer (some ⟨w.heap.size, 0, none⟩), .int .u64 150] 172)) (by simp)
  have hg2 : ((w.alloc (.cells #[.pointer (some t)] 161)).alloc (.cells #[.pointer (some ⟨3, 161, none⟩), .pointer (some ⟨w.heap.size, 0, none⟩), .int .u64 150] 172)).cell? ⟨2, 0, none⟩ = some (.iface 183 (.agg #[.pointer (some ⟨3, 26, none⟩)])) := by
    rw [World.cell?_alloc_lt _ _ ⟨2, 0, none⟩ (by simp; omega), World.cell?_alloc_lt _ _ ⟨2, 0, none⟩ hgl]; exact hg
  have htl : t.block < w.heap.size := by
    rcases Nat.lt_or_ge t.block w.heap.size with h | h
    · exact h
    · simp [World.cell?, Array.getElem?_eq_none h] at ht0
  have el := rl_elemv ⟨w.heap.size, 0, none⟩ t (((w.alloc (.cells #[.pointer (some t)] 161)).alloc (.cells #[.pointer (some ⟨3, 161, none⟩), .pointer (some ⟨w.heap.size, 0, none⟩), .int .u64 150] 172)).alloc (.cells #[.pointer (some ⟨3, 161, none⟩), .pointer (some ⟨w.heap.size, 0, none⟩), .int .u64 150] 172)) (by rw [World.cell?_alloc_lt _ _ ⟨w.heap.size, 0, none⟩ (by simp; omega)]; simp)
  have st := rl_set t ⟨w.heap.size + 1 + 1 + 1, 0, none⟩ k old ((((w.alloc (.cells #[.pointer (some t)] 161)).alloc (.cells #[.pointer (some ⟨3, 161, none⟩), .pointer (some ⟨w.heap.size, 0, none⟩), .int .u64 150] 172)).alloc (.cells #[.pointer (some ⟨3, 161, none⟩), .pointer (some ⟨w.heap.size, 0, none⟩), .int .u64 150] 172)).alloc (.cells #[.int .i64 k] 130))
    (by rw [World.cell?_alloc_at _ _ _ _ (by simp)]; rfl)
    (by rw [World.cell?_alloc_lt _ _ t (by simp; omega), World.cell?_alloc_lt _ _ t (by simp; omega), World.cell?_alloc_lt _ _ t (by simp; omega), World.cell?_alloc_lt _ _ t htl]; exact ht0)
    (by rw [World.frozen?_alloc_old _ _ t (by simp; omega), World.frozen?_alloc_old _ _ t (by simp; omega), World.frozen?_alloc_old _ _ t (by simp; omega), World.frozen?_alloc_old _ _ t (Nat.ne_of_lt htl)]; exact hf0)
  go_enter Tryd.func141, Tryd.ntmps141
  go_wp2
  refine wp_loop_rounds 1 ?_
  rw [rounds_succ]
  go_wp2
  go_ret
  exact ⟨rfl, rfl⟩
/-- An error is told by its number. -/
theorem told_nil (w : World) : Calls Tryd.prog 106 #[.nilIface] w fun e w' => e = .returned (.int .i64 0) ∧ Below w.heap.size w w' := by
  go_enter Tryd.func106, Tryd.ntmps106
  go_wp2
  go_ret
  exact ⟨rfl, (by repeat (first | exact Below.refl _ _ | refine balloc ?_ _ | refine Below.drew ?_ | refine below_drewN ?_ _ | refine below_set ?_ (by first | omega | (dsimp only; omega)) _))⟩
set_option maxHeartbeats 4000000 in
theorem told_err (k : Int) (w : World) (hE : ErrAt w) : Calls Tryd.prog 106 #[.iface 130 (.int .i64 k)] w fun e w' => e = .returned (.int .i64 k) ∧ Below w.heap.size w w' := by
  go_enter Tryd.func106, Tryd.ntmps106
  go_wp2_with fail
  refine (as_hit k ⟨w.heap.size, 0, none⟩ (.int .i64 0) _ (by rw [World.cell?_alloc_lt _ _ ⟨2, 0, none⟩ hE.2]; exact hE.1) (by simp; have := hE.2; omega) (by simp) (by simp)).mono ?_; rintro e w1 ⟨rfl, hw⟩
  have hc : w1.cell? ⟨w.heap.size, 0, none⟩ = some (.int .i64 k) := by
    rw [hw]; refine World.cell?_setCell_same (u := .int .i64 0) _ _ _ ?_
    rw [World.cell?_alloc_lt _ _ ⟨w.heap.size, 0, none⟩ (by simp; omega), World.cell?_alloc_lt _ _ ⟨w.heap.size, 0, none⟩ (by simp; omega), World.cell?_alloc_lt _ _ ⟨w.heap.size, 0, none⟩ (by simp; omega), World.cell?_alloc_lt _ _ ⟨w.heap.size, 0, none⟩ (by simp)]; simp
  have hb : Below w.heap.size w w1 := by
    rw [hw]; exact below_set (balloc (balloc (balloc (balloc (below_alloc _ _) _) _) _) _) (Nat.le_refl _) _
  have hz := hb.size
  have hl : w.heap.size < w1.heap.size := by rw [hw]; simp; omega
  clear hw
  go_wp2
  go_ret
  exact ⟨rfl, hb⟩
theorem error_nil (n : Int) (w : World) (b : Bool) (h : Hid (((0 : Int) == n) = b)) : Calls Tryd.prog 31 #[.nilIface, .int .i64 n] w fun e w' => e = .returned (.bool b) ∧ Below w.heap.size w w' := by
  go_enter Tryd.func31, Tryd.ntmps31
  go_wp2_with fail
  refine (told_nil _).mono ?_; rintro e w1 ⟨rfl, hb⟩
  have he := h.out
  go_wp2
  go_ret
  exact ⟨rfl, hb⟩
theorem error_err (k n : Int) (w : World) (hE : ErrAt w) (b : Bool) (h : Hid ((k == n) = b)) : Calls Tryd.prog 31 #[.iface 130 (.int .i64 k), .int .i64 n] w fun e w' => e = .returned (.bool b) ∧ Below w.heap.size w w' := by
  go_enter Tryd.func31, Tryd.ntmps31
  go_wp2_with fail
  refine (told_err k _ hE).mono ?_; rintro e w1 ⟨rfl, hb⟩
  have he := h.out
  go_wp2
  go_ret
  exact ⟨rfl, hb⟩
/-- An error's value, by its number; it is told as that number. -/
theorem error_same (E : Value) (n : Int) (w : World) (hE : ErrAt w) (h : Hid (E = errV n)) : Calls Tryd.prog 31 #[E, .int .i64 n] w fun e w' => e = .returned (.bool true) ∧ Below w.heap.size w w' := by
  rw [h.out]; unfold errV
  split
  · next e => rw [e]; exact error_nil 0 w true rfl
  · exact error_err n n w hE true (by show _ = _; simp)
end Go.Proofs.YtijemkecjohagaaDoor
