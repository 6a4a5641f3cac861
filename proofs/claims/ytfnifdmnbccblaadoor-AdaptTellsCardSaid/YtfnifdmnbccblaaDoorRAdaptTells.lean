/- The statement of AdaptTells: for every input the law returns true, and the arguments read as they did. (its listed variable reads as laid; the card ties it) -/
import Derived.Test.YtfnifdmnbccblaaDoorWb
import Derived.Test.YtfnifdmnbccblaaDoorWv
import Derived.LaidEql
import Derived.Stop.Asserts
import Derived.RowKitTokens
import Derived.Laws.Entries
import Derived.Test.YtfnifdmnbccblaaDoorQb
import Derived.Test.YtfnifdmnbccblaaDoorEq
import Derived.Deep.DeepCutAuto
import Derived.BigQuiet
import Derived.Test.YtfnifdmnbccblaaDoorAe
import Derived.Test.YtfnifdmnbccblaaDoorSt
import Derived.Test.YtfnifdmnbccblaaDoorRows
import Derived.ProofKit
import Derived.LaidMore
import Derived.OpenShut
import Derived.MakeChecks
import Derived.Deep.Strs
import Derived.LaidHandle
import Derived.Test.YtfnifdmnbccblaaDoorFr
import Derived.Test.YtfnifdmnbccblaaDoorFt
import Derived.SizedLaws
import Derived.Test.YtfnifdmnbccblaaDoorTie
import Derived.Test.YtfnifdmnbccblaaDoorCards
import Derived.SevenTiedAt
namespace Go.Proofs.YtfnifdmnbccblaaDoor
open Go.RowKit Go.Extern.Stop Go.Stop Go.Extern
set_option maxRecDepth 100000
set_option linter.unusedVariables false
set_option linter.unusedSimpArgs false
/-- The variable errors.errorType reads as laid. -/
def ErrAt (w : World) : Prop := w.cell? ⟨2, 0, none⟩ = some (.iface 183 (.agg #[.pointer (some ⟨3, 27, none⟩)])) ∧ 2 < w.heap.size
theorem ErrAt.below {w w' : World} (h : ErrAt w) (hb : Below w.heap.size w w') : ErrAt w' := ⟨((bcell hb).1 _ _ h.2).trans h.1, Nat.lt_of_lt_of_le h.2 hb.size⟩
/-! The model's entries for reflectlite, at this program's types. -/
theorem rl_value (t : Addr) (w : World) : (ReflectliteValue.unpack (.iface 161 (.pointer (some t)))).run Tryd.prog w
    = .ok (.agg #[.pointer (some ⟨3, 161, none⟩), .pointer (some ⟨w.heap.size, 0, none⟩), .int .u64 150]) (w.alloc (.cells #[.pointer (some t)] 161)) := by kernel_rfl
theorem rl_type (a : Addr) (w : World) : (ReflectliteValue.methodAny (ReflectliteValue.valueError "reflectlite.Value.Type" 0) (fun t _ _ _ => ReflectliteType.toType t) #[.agg #[.pointer (some ⟨3, 161, none⟩), .pointer (some a), .int .u64 150]]).run Tryd.prog w
    = .ok (.iface 183 (.agg #[.pointer (some ⟨3, 161, none⟩)])) w := by kernel_rfl
theorem rl_kindm (h : Value) (w : World) : (Go.method 326 183 (.agg #[h]) "Kind").run Tryd.prog w = .ok (166, h) w := by kernel_rfl
theorem rl_kind (w : World) : ((ReflectliteType.abiMethod fun t => Functor.map (fun a : Nat => Value.int IntKind.u8 (a : Int)) (Rtype.kind t)) #[.pointer (some ⟨3, 161, none⟩)]).run Tryd.prog w = .ok (.int .u8 22) w := by kernel_rfl
theorem rl_kinde (w : World) : ((ReflectliteType.abiMethod fun t => Functor.map (fun a : Nat => Value.int IntKind.u8 (a : Int)) (Rtype.kind t)) #[.pointer (some ⟨3, 118, none⟩)]).run Tryd.prog w = .ok (.int .u8 2) w := by kernel_rfl
theorem rl_m (z : Sem Value) (f : TypeId → Addr → Nat → Nat → Sem Value) (v : Value) :
    ReflectliteValue.method z f #[v] = (do match ← ReflectliteValue.parts v with | none => z | some (t, a, fl) => f t a fl (fl % 32)) := rfl
theorem rl_parts (a : Addr) (w : World) : (ReflectliteValue.parts (.agg #[.pointer (some ⟨3, 161, none⟩), .pointer (some a), .int .u64 150])).run Tryd.prog w = .ok (some (161, a, 150)) w := by kernel_rfl
theorem rl_nil (a p : Addr) (W : World) (ha : W.cell? a = some (.pointer (some p))) :
    (ReflectliteValue.method (ReflectliteValue.valueError "reflectlite.Value.IsNil" 0) ReflectliteValue.isNil #[.agg #[.pointer (some ⟨3, 161, none⟩), .pointer (some a), .int .u64 150]]).run Tryd.prog W = .ok (.bool false) W := by
  rw [rl_m]
  simp only [Sem.run_bind, rl_parts, Result.andThen]
  simp [ReflectliteValue.isNil, loadVar, isAgg, underlying, Tryd.underlying161, ha, Result.andThen]
theorem rl_elemm (h : Value) (w : World) : (Go.method 326 183 (.agg #[h]) "Elem").run Tryd.prog w = .ok (177, .agg #[h]) w := by kernel_rfl
theorem rl_implm (h : Value) (w : World) : (Go.method 326 183 (.agg #[h]) "Implements").run Tryd.prog w = .ok (178, .agg #[h]) w := by kernel_rfl
theorem rl_assm (h : Value) (w : World) : (Go.method 326 183 (.agg #[h]) "AssignableTo").run Tryd.prog w = .ok (175, .agg #[h]) w := by kernel_rfl
theorem rl_elem (w : World) : (ReflectliteType.method ReflectliteType.elem #[.agg #[.pointer (some ⟨3, 161, none⟩)]]).run Tryd.prog w = .ok (.iface 183 (.agg #[.pointer (some ⟨3, 118, none⟩)])) w := by kernel_rfl
theorem rl_impl (w : World) : (ReflectliteType.relation "Implements" ReflectliteType.implements_ #[.agg #[.pointer (some ⟨3, 118, none⟩)], .iface 183 (.agg #[.pointer (some ⟨3, 27, none⟩)])]).run Tryd.prog w = .ok (.bool true) w := by kernel_rfl
theorem rl_typeof (v : Value) (w : World) : (ReflectliteType.typeOf #[.iface 118 v]).run Tryd.prog w = .ok (.iface 183 (.agg #[.pointer (some ⟨3, 118, none⟩)])) w := by kernel_rfl
theorem rl_ass (w : World) : (ReflectliteType.relation "AssignableTo" ReflectliteType.assignableTo #[.agg #[.pointer (some ⟨3, 118, none⟩)], .iface 183 (.agg #[.pointer (some ⟨3, 118, none⟩)])]).run Tryd.prog w = .ok (.bool true) w := by kernel_rfl
theorem rl_valuee (k : Int) (w : World) : (ReflectliteValue.unpack (.iface 118 (.int .i64 k))).run Tryd.prog w
    = .ok (.agg #[.pointer (some ⟨3, 118, none⟩), .pointer (some ⟨w.heap.size, 0, none⟩), .int .u64 130]) (w.alloc (.cells #[.int .i64 k] 118)) := by kernel_rfl
theorem rl_elemof (w : World) : (Rtype.elem? 161).run Tryd.prog w = .ok (some 118) w := by kernel_rfl
theorem rl_mk (p : Addr) (w : World) : (ReflectliteValue.mk 118 p ReflectliteValue.flagAddr).run Tryd.prog w = .ok (.agg #[.pointer (some ⟨3, 118, none⟩), .pointer (some p), .int .u64 386]) w := by kernel_rfl
theorem rl_elemv (a p : Addr) (W : World) (ha : W.cell? a = some (.pointer (some p))) :
    (ReflectliteValue.method (ReflectliteValue.valueError "reflectlite.Value.Elem" 0) ReflectliteValue.elem #[.agg #[.pointer (some ⟨3, 161, none⟩), .pointer (some a), .int .u64 150]]).run Tryd.prog W
      = .ok (.agg #[.pointer (some ⟨3, 118, none⟩), .pointer (some p), .int .u64 386]) W := by
  rw [rl_m]
  simp only [Sem.run_bind, rl_parts, Result.andThen]
  simp [ReflectliteValue.elem, loadVar, isAgg, underlying, Tryd.underlying161, ha, Result.andThen, rl_elemof, rl_mk]
theorem rl_s (v x : Value) : ReflectliteValue.set #[v, x] = (do
    let (some (dst, a, fl), some (src, b, _)) := (← ReflectliteValue.parts v, ← ReflectliteValue.parts x)
      | unsupported (.noEntry "extern/(internal/reflectlite.Value).Set.zeroValue")
    if fl / ReflectliteValue.flagAddr % 2 == 0 then unsupported (.noEntry "extern/(internal/reflectlite.Value).Set.unaddressable")
    let val ← loadVar src b
    if ← Rtype.directlyAssignable dst src then storeVar dst a val
    else if ← Rtype.implements dst src then
      if (← Rtype.kind src) == 20 then
        match val with
        | .nilIface => unsupported (.noEntry "extern/reflectlite: a nil value of one interface type handed on as a value of another")
        | _ => storeVar dst a val
      else storeVar dst a (.iface src val)
    else panicString ("reflectlite.Set: value of type " ++ (← Rtype.spelt src) ++ " is not assignable to type " ++ (← Rtype.spelt dst))
    pure (.tuple #[])) := rfl
theorem rl_partsa (a : Addr) (w : World) : (ReflectliteValue.parts (.agg #[.pointer (some ⟨3, 118, none⟩), .pointer (some a), .int .u64 386])).run Tryd.prog w = .ok (some (118, a, 386)) w := by kernel_rfl
theorem rl_partse (a : Addr) (w : World) : (ReflectliteValue.parts (.agg #[.pointer (some ⟨3, 118, none⟩), .pointer (some a), .int .u64 130])).run Tryd.prog w = .ok (some (118, a, 130)) w := by kernel_rfl
theorem rl_direct (w : World) : (Rtype.directlyAssignable 118 118).run Tryd.prog w = .ok true w := by kernel_rfl
theorem rl_set (ta b : Addr) (k : Int) (old : Value) (W : World) (hb : W.cell? b = some (.int .i64 k)) (ht : W.cell? ta = some old) (hf : W.frozen? ta = false) :
    (ReflectliteValue.set #[.agg #[.pointer (some ⟨3, 118, none⟩), .pointer (some ta), .int .u64 386], .agg #[.pointer (some ⟨3, 118, none⟩), .pointer (some b), .int .u64 130]]).run Tryd.prog W
      = .ok (.tuple #[]) (W.setCell ta (.int .i64 k)) := by
  rw [rl_s]
  simp only [Sem.run_bind, rl_partsa, rl_partse, Result.andThen]
  simp [ReflectliteValue.flagAddr, loadVar, isAgg, underlying, Tryd.underlying118, hb, Result.andThen, rl_direct, storeVar, Value.cells, storeCells, Addr.add]
  rw [run_store Tryd.prog W ta _ _ (by rfl)]
  simp [ht, hf]
set_option maxHeartbeats 4000000 in
theorem as_hit (k : Int) (t : Addr) (old : Value) (w : World) (hg : w.cell? ⟨2, 0, none⟩ = some (.iface 183 (.agg #[.pointer (some ⟨3, 27, none⟩)]))) (hgl : 2 < w.heap.size) (ht0 : w.cell? t = some old) (hf0 : w.frozen? t = false) :
    Calls Tryd.prog 134 #[.iface 118 (.int .i64 k), .iface 161 (.pointer (some t))] w fun ev w' => ev = .returned (.bool true) ∧ w' = ((((w.alloc (.cells #[.pointer (some t)] 161)).alloc (.cells #[.pointer (some ⟨3, 161, none⟩), .pointer (some ⟨w.heap.size, 0, none⟩), .int .u64 150] 172)).alloc (.cells #[.pointer (some ⟨3, 161, none⟩), .pointer (some ⟨w.heap.size, 0, none⟩), .int .u64 150] 172)).alloc (.cells #[.int .i64 k] 118)).setCell t (.int .i64 k) := by
  have h6 := @run_callFunc_extern Tryd.prog 144 _ (fun args => ReflectliteValue.unpack (args.getD 0 (.tuple #[]))) Tryd.func144 (by kernel_rfl) (by kernel_rfl) (by kernel_rfl) (by kernel_rfl)
  have h7 := @run_callFunc_extern Tryd.prog 145 _ (ReflectliteValue.methodAny (ReflectliteValue.valueError "reflectlite.Value.Type" 0) (fun t _ _ _ => ReflectliteType.toType t)) Tryd.func145 (by kernel_rfl) (by kernel_rfl) (by kernel_rfl) (by kernel_rfl)
  have h8 := @run_callFunc_extern Tryd.prog 146 _ (ReflectliteValue.method (ReflectliteValue.valueError "reflectlite.Value.IsNil" 0) ReflectliteValue.isNil) Tryd.func146 (by kernel_rfl) (by kernel_rfl) (by kernel_rfl) (by kernel_rfl)
  have h27 := @run_callFunc_extern Tryd.prog 166 _ (ReflectliteType.abiMethod fun t => do pure (.int .u8 (← Rtype.kind t))) Tryd.func166 (by kernel_rfl) (by kernel_rfl) (by kernel_rfl) (by kernel_rfl)
  have h37 := @run_callFunc_extern Tryd.prog 177 _ (ReflectliteType.method ReflectliteType.elem) Tryd.func177 (by kernel_rfl) (by kernel_rfl) (by kernel_rfl) (by kernel_rfl)
  have h38 := @run_callFunc_extern Tryd.prog 178 _ (ReflectliteType.relation "Implements" ReflectliteType.implements_) Tryd.func178 (by kernel_rfl) (by kernel_rfl) (by kernel_rfl) (by kernel_rfl)
  have h10 := @run_callFunc_extern Tryd.prog 149 _ (ReflectliteType.typeOf) Tryd.func149 (by kernel_rfl) (by kernel_rfl) (by kernel_rfl) (by kernel_rfl)
  have h35 := @run_callFunc_extern Tryd.prog 175 _ (ReflectliteType.relation "AssignableTo" ReflectliteType.assignableTo) Tryd.func175 (by kernel_rfl) (by kernel_rfl) (by kernel_rfl) (by kernel_rfl)
  have h11 := @run_callFunc_extern Tryd.prog 150 _ (ReflectliteValue.method (ReflectliteValue.valueError "reflectlite.Value.Elem" 0) ReflectliteValue.elem) Tryd.func150 (by kernel_rfl) (by kernel_rfl) (by kernel_rfl) (by kernel_rfl)
  have h12 := @run_callFunc_extern Tryd.prog 151 _ (ReflectliteValue.set) Tryd.func151 (by kernel_rfl) (by kernel_rfl) (by kernel_rfl) (by kernel_rfl)
  have tO := rl_typeof
  have mA := rl_assm
  have a25 := rl_ass
  have v25 := rl_valuee
  have f6 := rl_value
  have f7 := rl_type
  have mK := rl_kindm
  have mE := rl_elemm
  have mI := rl_implm
  have k27 := rl_kind
  have k25 := rl_kinde
  have e27 := rl_elem
  have i25 := rl_impl
  have n8 := rl_nil ⟨w.heap.size, 0, none⟩ t ((w.alloc (.cells #[.pointer (some t)] 161)).alloc (.cells #[.pointer (some ⟨3, 161, none⟩), .pointer (some ⟨w.heap.size, 0, none⟩), .int .u64 150] 172)) (by simp)
  have hg2 : ((w.alloc (.cells #[.pointer (some t)] 161)).alloc (.cells #[.pointer (some ⟨3, 161, none⟩), .pointer (some ⟨w.heap.size, 0, none⟩), .int .u64 150] 172)).cell? ⟨2, 0, none⟩ = some (.iface 183 (.agg #[.pointer (some ⟨3, 27, none⟩)])) := by
    rw [World.cell?_alloc_lt _ _ ⟨2, 0, none⟩ (by simp; omega), World.cell?_alloc_lt _ _ ⟨2, 0, none⟩ hgl]; exact hg
  have htl : t.block < w.heap.size := by
    rcases Nat.lt_or_ge t.block w.heap.size with h | h
    · exact h
    · simp [World.cell?, Array.getElem?_eq_none h] at ht0
  have el := rl_elemv ⟨w.heap.size, 0, none⟩ t (((w.alloc (.cells #[.pointer (some t)] 161)).alloc (.cells #[.pointer (some ⟨3, 161, none⟩), .pointer (some ⟨w.heap.size, 0, none⟩), .int .u64 150] 172)).alloc (.cells #[.pointer (some ⟨3, 161, none⟩), .pointer (some ⟨w.heap.size, 0, none⟩), .int .u64 150] 172)) (by rw [World.cell?_alloc_lt _ _ ⟨w.heap.size, 0, none⟩ (by simp; omega)]; simp)
  have st := rl_set t ⟨w.heap.size + 1 + 1 + 1, 0, none⟩ k old ((((w.alloc (.cells #[.pointer (some t)] 161)).alloc (.cells #[.pointer (some ⟨3, 161, none⟩), .pointer (some ⟨w.heap.size, 0, none⟩), .int .u64 150] 172)).alloc (.cells #[.pointer (some ⟨3, 161, none⟩), .pointer (some ⟨w.heap.size, 0, none⟩), .int .u64 150] 172)).alloc (.cells #[.int .i64 k] 118))
    (by rw [World.cell?_alloc_at _ _ _ _ (by simp)]; rfl)
    (by rw [World.cell?_alloc_lt _ _ t (by simp; omega), World.cell?_alloc_lt _ _ t (by simp; omega), World.cell?_alloc_lt _ _ t (by simp; omega), World.cell?_alloc_lt _ _ t htl]; exact ht0)
    (by rw [World.frozen?_alloc_old _ _ t (by simp; omega), World.frozen?_alloc_old _ _ t (by simp; omega), World.frozen?_alloc_old _ _ t (by simp; omega), World.frozen?_alloc_old _ _ t (Nat.ne_of_lt htl)]; exact hf0)
  go_enter Tryd.func134, Tryd.ntmps134
  go_wp2
  refine wp_loop_rounds 1 ?_
  rw [rounds_succ]
  go_wp2
  go_ret
  exact ⟨rfl, rfl⟩
/-- An error is told by its number. -/
theorem told_nil (w : World) : Calls Tryd.prog 89 #[.nilIface] w fun e w' => e = .returned (.int .i64 0) ∧ Below w.heap.size w w' := by
  go_enter Tryd.func89, Tryd.ntmps89
  go_wp2
  go_ret
  exact ⟨rfl, (by repeat (first | exact Below.refl _ _ | refine balloc ?_ _ | refine Below.drew ?_ | refine below_drewN ?_ _ | refine below_set ?_ (by first | omega | (dsimp only; omega)) _))⟩
set_option maxHeartbeats 4000000 in
theorem told_err (k : Int) (w : World) (hE : ErrAt w) : Calls Tryd.prog 89 #[.iface 118 (.int .i64 k)] w fun e w' => e = .returned (.int .i64 k) ∧ Below w.heap.size w w' := by
  go_enter Tryd.func89, Tryd.ntmps89
  go_wp2_with fail
  refine (as_hit k ⟨w.heap.size, 0, none⟩ (.int .i64 0) _ (by rw [World.cell?_alloc_lt _ _ ⟨2, 0, none⟩ hE.2]; exact hE.1) (by simp; have := hE.2; omega) (by simp) (by simp)).mono ?_; rintro e w1 ⟨rfl, hw⟩
  have hc : w1.cell? ⟨w.heap.size, 0, none⟩ = some (.int .i64 k) := by
    rw [hw]; refine World.cell?_setCell_same (u := .int .i64 0) _ _ _ ?_
    rw [World.cell?_alloc_lt _ _ ⟨w.heap.size, 0, none⟩ (by simp; omega), World.cell?_alloc_lt _ _ ⟨w.heap.size, 0, none⟩ (by simp; omega), World.cell?_alloc_lt _ _ ⟨w.heap.size, 0, none⟩ (by simp; omega), World.cell?_alloc_lt _ _ ⟨w.heap.size, 0, none⟩ (by simp)]; simp
  have hb : Below w.heap.size w w1 := by
    rw [hw]; exact below_set (balloc (balloc (balloc (balloc (below_alloc _ _) _) _) _) _) (Nat.le_refl _) _
  have hz := hb.size
  have hl : w.heap.size < w1.heap.size := by rw [hw]; simp; omega
  clear hw
  go_wp2
  go_ret
  exact ⟨rfl, hb⟩
theorem error_nil (n : Int) (w : World) (b : Bool) (h : Hid (((0 : Int) == n) = b)) : Calls Tryd.prog 21 #[.nilIface, .int .i64 n] w fun e w' => e = .returned (.bool b) ∧ Below w.heap.size w w' := by
  go_enter Tryd.func21, Tryd.ntmps21
  go_wp2_with fail
  refine (told_nil _).mono ?_; rintro e w1 ⟨rfl, hb⟩
  have he := h.out
  go_wp2
  go_ret
  exact ⟨rfl, hb⟩
theorem error_err (k n : Int) (w : World) (hE : ErrAt w) (b : Bool) (h : Hid ((k == n) = b)) : Calls Tryd.prog 21 #[.iface 118 (.int .i64 k), .int .i64 n] w fun e w' => e = .returned (.bool b) ∧ Below w.heap.size w w' := by
  go_enter Tryd.func21, Tryd.ntmps21
  go_wp2_with fail
  refine (told_err k _ hE).mono ?_; rintro e w1 ⟨rfl, hb⟩
  have he := h.out
  go_wp2
  go_ret
  exact ⟨rfl, hb⟩
/-- An error's value, by its number; it is told as that number. -/
theorem error_same (E : Value) (n : Int) (w : World) (hE : ErrAt w) (h : Hid (E = errV n)) : Calls Tryd.prog 21 #[E, .int .i64 n] w fun e w' => e = .returned (.bool true) ∧ Below w.heap.size w w' := by
  rw [h.out]; unfold errV
  split
  · next e => rw [e]; exact error_nil 0 w true rfl
  · exact error_err n n w hE true (by show _ = _; simp)
end Go.Proofs.YtfnifdmnbccblaaDoor
namespace Go.Proofs.YtfnifdmnbccblaaDoor
open Go.RowKit
set_option maxRecDepth 100000
set_option linter.unusedVariables false
set_option linter.unusedSimpArgs false
set_option maxHeartbeats 32000000 in
theorem al_all (x k : Int) (T : Sp) (text : ByteArray) (key P : Sp) (PS : Int) (Q : Sp) (QS n : Int) (w : World) (hF : FarAt w) (hE : ErrAt w) (hz : text.size ≤ 140737488351232) (n0 : -9223372036854775808 ≤ n) (n1 : n ≤ 9223372036854775807) (B1 B2 B3 B4 B5 B6 B7 B8 B9 C1 : Bool) (jB1 : Hid (secB x = B1)) (jB2 : Hid (secB k = B2)) (jB3 : Hid ((!(B1 && B2)) = B3)) (E1 E2 E3 E4 E5 E6 E7 E8 E9 : Int) (h1 : Hid ((B3 = true ∧ E1 = 1) ∨ (B3 = false ∧ sCheck T = E1))) (h2 : Hid ((E1 = 0 ∧ 60 < text.size ∧ B4 = true) ∨ (E1 = 0 ∧ text.size ≤ 60 ∧ B4 = false) ∨ ((E1 == 0) = false ∧ B4 = false))) (h3 : Hid ((B4 = true ∧ E2 = 4) ∨ (B4 = false ∧ E2 = E1))) (Z K : Sp) (Y c : Int) (h4 : Hid ((E2 = 0 ∧ 1 ≤ x ∧ x < 1013 ∧ 1 ≤ k ∧ k < 1013 ∧ text.size ≤ 60 ∧ (∀ w : World, Calls Tryd.prog 29 #[.int .i64 k, .int .i64 1, spV T] w fun e w' => e = .returned (spV Z) ∧ Below w.heap.size w w') ∧ sq (4 * x) = K ∧ Ok Z ∧ Ok K ∧ askN Z K text.data.toList = c ∧ 0 ≤ c * x ∧ c * x ≤ 1024144 ∧ (k + c * x) % 1013 = Y) ∨ ((E2 == 0) = false ∧ Z = ⟨0, 0, false⟩ ∧ Y = 0))) (kPre : Hid (∀ w : World, FarAt w → Calls Tryd.prog 38 #[.int .i64 x, .int .i64 k, spV T, .string text] w fun e w' => e = .returned (.tuple #[slV Z Y, errV E2]) ∧ Below w.heap.size w w')) (kSeal : Hid (∀ w : World, Calls Tryd.prog 26 #[spV key, .string text, slV P PS] w fun e w' => e = .returned (.int .i64 E3) ∧ Below w.heap.size w w')) (h5 : Hid ((E3 = 0 ∧ sCheck T = E4) ∨ ((E3 == 0) = false ∧ E4 = E3))) (RT : Bool) (h6 : Hid ((E4 = 0 ∧ (∀ w : World, Calls Tryd.prog 33 #[spV key, .string text, slV P PS, spV T] w fun e w' => e = .returned (.bool RT) ∧ Below w.heap.size w w')) ∨ ((E4 == 0) = false ∧ RT = false))) (kChk : Hid (∀ w : World, FarAt w → Calls Tryd.prog 39 #[spV key, spV T, .string text, slV P PS] w fun e w' => e = .returned (.tuple #[.bool RT, errV E4]) ∧ Below w.heap.size w w')) (jE5 : Hid (sCheck P = E5)) (jB5 : Hid (resB PS = B5)) (jB6 : Hid (resB n = B6)) (h7 : Hid ((E5 = 0 ∧ B5 = true ∧ B6 = true ∧ B7 = false) ∨ (E5 = 0 ∧ B5 = true ∧ B6 = false ∧ B7 = true) ∨ (E5 = 0 ∧ B5 = false ∧ B7 = true) ∨ ((E5 == 0) = false ∧ B7 = false))) (h8 : Hid ((B7 = true ∧ E6 = 1) ∨ (B7 = false ∧ E6 = E5))) (Z2 : Sp) (Y2 : Int) (h9 : Hid ((E6 = 0 ∧ 0 ≤ PS ∧ PS < 1013 ∧ 0 ≤ n ∧ n < 1013 ∧ P = Z2 ∧ (PS + n) % 1013 = Y2) ∨ ((E6 == 0) = false ∧ Z2 = ⟨0, 0, false⟩ ∧ Y2 = 0))) (kFill : Hid (∀ w : World, FarAt w → Calls Tryd.prog 41 #[slV P PS, .int .i64 n] w fun e w' => e = .returned (.tuple #[slV Z2 Y2, errV E6]) ∧ Below w.heap.size w w')) (g1 : Hid ((E5 = 0 ∧ sCheck Q = E7) ∨ ((E5 == 0) = false ∧ E7 = E5))) (jB8 : Hid (resB QS = B8)) (g2 : Hid ((E7 = 0 ∧ B5 = true ∧ B8 = true ∧ B9 = false) ∨ (E7 = 0 ∧ B5 = true ∧ B8 = false ∧ B9 = true) ∨ (E7 = 0 ∧ B5 = false ∧ B9 = true) ∨ ((E7 == 0) = false ∧ B9 = false))) (g3 : Hid ((B9 = true ∧ E8 = 1) ∨ (B9 = false ∧ E8 = E7))) (g4 : Hid ((E8 = 0 ∧ Sp.beq P Q = true ∧ C1 = false) ∨ (E8 = 0 ∧ Sp.beq P Q = false ∧ C1 = true) ∨ ((E8 == 0) = false ∧ C1 = false))) (g5 : Hid ((C1 = true ∧ E9 = 3) ∨ (C1 = false ∧ E9 = E8))) (M : Int) (g6 : Hid ((E9 = 0 ∧ 0 ≤ PS ∧ PS < 1013 ∧ 0 ≤ QS ∧ QS < 1013 ∧ (QS - PS) % 1013 = M) ∨ ((E9 == 0) = false ∧ M = 0))) (kFind : Hid (∀ w : World, FarAt w → Calls Tryd.prog 43 #[slV P PS, slV Q QS] w fun e w' => e = .returned (.tuple #[.int .i64 M, errV E9]) ∧ Below w.heap.size w w')) :
    Calls Tryd.prog 6 #[.int .i64 x, .int .i64 k, spV T, .string text, spV key, slV P PS, slV Q QS, .int .i64 n] w fun e w' => e = .returned (.bool true) ∧ Below w.heap.size w w' := by
  go_enter Tryd.func6, Tryd.ntmps6
  go_wp2_with fail
  refine (rSecret_b x B1 _ jB1).mono ?_; rintro e w' ⟨rfl, rfl⟩
  go_wp2_with fail
  refine (rSecret_b k B2 _ jB2).mono ?_; rintro e w' ⟨rfl, rfl⟩
  go_upto_region 4 with fail
  go_cut [42] from 37 to 41 (fun s42 wx => s42 = .bool B3 ∧ Below w.heap.size w wx ∧ w.heap.size < wx.heap.size ∧ w.heap.size + 1 < wx.heap.size ∧ w.heap.size + 1 + 1 < wx.heap.size ∧ w.heap.size + 1 + 1 + 1 < wx.heap.size ∧ wx.cell? ⟨w.heap.size, 0, none⟩ = some (.int .i64 T.x) ∧ wx.cell? ⟨w.heap.size, 1, none⟩ = some (.int .i64 T.y) ∧ wx.cell? ⟨w.heap.size, 2, none⟩ = some (.bool T.far) ∧ wx.cell? ⟨w.heap.size + 1, 0, none⟩ = some (.int .i64 key.x) ∧ wx.cell? ⟨w.heap.size + 1, 1, none⟩ = some (.int .i64 key.y) ∧ wx.cell? ⟨w.heap.size + 1, 2, none⟩ = some (.bool key.far) ∧ wx.cell? ⟨w.heap.size + 1 + 1, 0, none⟩ = some (.int .i64 P.x) ∧ wx.cell? ⟨w.heap.size + 1 + 1, 1, none⟩ = some (.int .i64 P.y) ∧ wx.cell? ⟨w.heap.size + 1 + 1, 2, none⟩ = some (.bool P.far) ∧ wx.cell? ⟨w.heap.size + 1 + 1, 3, none⟩ = some (.int .i64 PS) ∧ wx.cell? ⟨w.heap.size + 1 + 1 + 1, 0, none⟩ = some (.int .i64 Q.x) ∧ wx.cell? ⟨w.heap.size + 1 + 1 + 1, 1, none⟩ = some (.int .i64 Q.y) ∧ wx.cell? ⟨w.heap.size + 1 + 1 + 1, 2, none⟩ = some (.bool Q.far) ∧ wx.cell? ⟨w.heap.size + 1 + 1 + 1, 3, none⟩ = some (.int .i64 QS))
  case first =>
    cases B1 <;> cases B2
    · go_wp2_with fail
      go_meet
      exact ⟨(by rw [← jB3.out]; rfl), (by repeat (first | exact Below.refl _ _ | refine balloc ?_ _ | refine Below.drew ?_ | refine below_drewN ?_ _ | refine below_set ?_ (by first | omega | (dsimp only; omega)) _)), (by first | with_reducible assumption | omega | (simp only [World.heap_drewN, World.size_alloc, World.size_setCell, World.size_drew]; omega)), (by first | with_reducible assumption | omega | (simp only [World.heap_drewN, World.size_alloc, World.size_setCell, World.size_drew]; omega)), (by first | with_reducible assumption | omega | (simp only [World.heap_drewN, World.size_alloc, World.size_setCell, World.size_drew]; omega)), (by first | with_reducible assumption | omega | (simp only [World.heap_drewN, World.size_alloc, World.size_setCell, World.size_drew]; omega)), (by first | with_reducible assumption | go_simp), (by first | with_reducible assumption | go_simp), (by first | with_reducible assumption | go_simp), (by first | with_reducible assumption | go_simp), (by first | with_reducible assumption | go_simp), (by first | with_reducible assumption | go_simp), (by first | with_reducible assumption | go_simp), (by first | with_reducible assumption | go_simp), (by first | with_reducible assumption | go_simp), (by first | with_reducible assumption | go_simp), (by first | with_reducible assumption | go_simp), (by first | with_reducible assumption | go_simp), (by first | with_reducible assumption | go_simp), (by first | with_reducible assumption | go_simp)⟩
    · go_wp2_with fail
      go_meet
      exact ⟨(by rw [← jB3.out]; rfl), (by repeat (first | exact Below.refl _ _ | refine balloc ?_ _ | refine Below.drew ?_ | refine below_drewN ?_ _ | refine below_set ?_ (by first | omega | (dsimp only; omega)) _)), (by first | with_reducible assumption | omega | (simp only [World.heap_drewN, World.size_alloc, World.size_setCell, World.size_drew]; omega)), (by first | with_reducible assumption | omega | (simp only [World.heap_drewN, World.size_alloc, World.size_setCell, World.size_drew]; omega)), (by first | with_reducible assumption | omega | (simp only [World.heap_drewN, World.size_alloc, World.size_setCell, World.size_drew]; omega)), (by first | with_reducible assumption | omega | (simp only [World.heap_drewN, World.size_alloc, World.size_setCell, World.size_drew]; omega)), (by first | with_reducible assumption | go_simp), (by first | with_reducible assumption | go_simp), (by first | with_reducible assumption | go_simp), (by first | with_reducible assumption | go_simp), (by first | with_reducible assumption | go_simp), (by first | with_reducible assumption | go_simp), (by first | with_reducible assumption | go_simp), (by first | with_reducible assumption | go_simp), (by first | with_reducible assumption | go_simp), (by first | with_reducible assumption | go_simp), (by first | with_reducible assumption | go_simp), (by first | with_reducible assumption | go_simp), (by first | with_reducible assumption | go_simp), (by first | with_reducible assumption | go_simp)⟩
    · go_wp2_with fail
      go_meet
      exact ⟨(by rw [← jB3.out]; rfl), (by repeat (first | exact Below.refl _ _ | refine balloc ?_ _ | refine Below.drew ?_ | refine below_drewN ?_ _ | refine below_set ?_ (by first | omega | (dsimp only; omega)) _)), (by first | with_reducible assumption | omega | (simp only [World.heap_drewN, World.size_alloc, World.size_setCell, World.size_drew]; omega)), (by first | with_reducible assumption | omega | (simp only [World.heap_drewN, World.size_alloc, World.size_setCell, World.size_drew]; omega)), (by first | with_reducible assumption | omega | (simp only [World.heap_drewN, World.size_alloc, World.size_setCell, World.size_drew]; omega)), (by first | with_reducible assumption | omega | (simp only [World.heap_drewN, World.size_alloc, World.size_setCell, World.size_drew]; omega)), (by first | with_reducible assumption | go_simp), (by first | with_reducible assumption | go_simp), (by first | with_reducible assumption | go_simp), (by first | with_reducible assumption | go_simp), (by first | with_reducible assumption | go_simp), (by first | with_reducible assumption | go_simp), (by first | with_reducible assumption | go_simp), (by first | with_reducible assumption | go_simp), (by first | with_reducible assumption | go_simp), (by first | with_reducible assumption | go_simp), (by first | with_reducible assumption | go_simp), (by first | with_reducible assumption | go_simp), (by first | with_reducible assumption | go_simp), (by first | with_reducible assumption | go_simp)⟩
    · go_wp2_with fail
      go_meet
      exact ⟨(by rw [← jB3.out]; rfl), (by repeat (first | exact Below.refl _ _ | refine balloc ?_ _ | refine Below.drew ?_ | refine below_drewN ?_ _ | refine below_set ?_ (by first | omega | (dsimp only; omega)) _)), (by first | with_reducible assumption | omega | (simp only [World.heap_drewN, World.size_alloc, World.size_setCell, World.size_drew]; omega)), (by first | with_reducible assumption | omega | (simp only [World.heap_drewN, World.size_alloc, World.size_setCell, World.size_drew]; omega)), (by first | with_reducible assumption | omega | (simp only [World.heap_drewN, World.size_alloc, World.size_setCell, World.size_drew]; omega)), (by first | with_reducible assumption | omega | (simp only [World.heap_drewN, World.size_alloc, World.size_setCell, World.size_drew]; omega)), (by first | with_reducible assumption | go_simp), (by first | with_reducible assumption | go_simp), (by first | with_reducible assumption | go_simp), (by first | with_reducible assumption | go_simp), (by first | with_reducible assumption | go_simp), (by first | with_reducible assumption | go_simp), (by first | with_reducible assumption | go_simp), (by first | with_reducible assumption | go_simp), (by first | with_reducible assumption | go_simp), (by first | with_reducible assumption | go_simp), (by first | with_reducible assumption | go_simp), (by first | with_reducible assumption | go_simp), (by first | with_reducible assumption | go_simp), (by first | with_reducible assumption | go_simp)⟩
  case rest =>
    obtain ⟨w1, hwq⟩ : ∃ x, x = wc := ⟨_, rfl⟩
    subst hwq
    obtain ⟨rfl, hB1, s1_0, s1_1, s1_2, s1_3, m1_0_0, m1_0_1, m1_0_2, m1_1_0, m1_1_1, m1_1_2, m1_2_0, m1_2_1, m1_2_2, m1_2_3, m1_3_0, m1_3_1, m1_3_2, m1_3_3⟩ := hcut
    go_upto_if 42 with fail
    go_cut [17] from 43 to 44 (fun s17 wx => s17 = .int .i64 E1 ∧ Below w.heap.size w wx ∧ w.heap.size < wx.heap.size ∧ w.heap.size + 1 < wx.heap.size ∧ w.heap.size + 1 + 1 < wx.heap.size ∧ w.heap.size + 1 + 1 + 1 < wx.heap.size ∧ wx.cell? ⟨w.heap.size, 0, none⟩ = some (.int .i64 T.x) ∧ wx.cell? ⟨w.heap.size, 1, none⟩ = some (.int .i64 T.y) ∧ wx.cell? ⟨w.heap.size, 2, none⟩ = some (.bool T.far) ∧ wx.cell? ⟨w.heap.size + 1, 0, none⟩ = some (.int .i64 key.x) ∧ wx.cell? ⟨w.heap.size + 1, 1, none⟩ = some (.int .i64 key.y) ∧ wx.cell? ⟨w.heap.size + 1, 2, none⟩ = some (.bool key.far) ∧ wx.cell? ⟨w.heap.size + 1 + 1, 0, none⟩ = some (.int .i64 P.x) ∧ wx.cell? ⟨w.heap.size + 1 + 1, 1, none⟩ = some (.int .i64 P.y) ∧ wx.cell? ⟨w.heap.size + 1 + 1, 2, none⟩ = some (.bool P.far) ∧ wx.cell? ⟨w.heap.size + 1 + 1, 3, none⟩ = some (.int .i64 PS) ∧ wx.cell? ⟨w.heap.size + 1 + 1 + 1, 0, none⟩ = some (.int .i64 Q.x) ∧ wx.cell? ⟨w.heap.size + 1 + 1 + 1, 1, none⟩ = some (.int .i64 Q.y) ∧ wx.cell? ⟨w.heap.size + 1 + 1 + 1, 2, none⟩ = some (.bool Q.far) ∧ wx.cell? ⟨w.heap.size + 1 + 1 + 1, 3, none⟩ = some (.int .i64 QS))
    case first =>
      rcases h1.out with ⟨e1, e2⟩ | ⟨e1, e2⟩
      · subst e1 e2
        clear h1
        go_wp2_with fail
        go_meet
        exact ⟨rfl, (by repeat (first | with_reducible exact hB1 | with_reducible exact Below.refl _ _ | with_reducible refine below_set ?_ (by first | omega | (dsimp only; omega)) _ | with_reducible refine balloc ?_ _ | with_reducible refine Below.drew ?_ | with_reducible refine below_drewN ?_ _ | exact hB1 | exact Below.refl _ _ | refine balloc ?_ _ | refine Below.drew ?_ | refine below_drewN ?_ _ | refine below_set ?_ (by first | omega | (dsimp only; omega)) _)), (by first | with_reducible assumption | omega | (simp only [World.heap_drewN, World.size_alloc, World.size_setCell, World.size_drew]; omega)), (by first | with_reducible assumption | omega | (simp only [World.heap_drewN, World.size_alloc, World.size_setCell, World.size_drew]; omega)), (by first | with_reducible assumption | omega | (simp only [World.heap_drewN, World.size_alloc, World.size_setCell, World.size_drew]; omega)), (by first | with_reducible assumption | omega | (simp only [World.heap_drewN, World.size_alloc, World.size_setCell, World.size_drew]; omega)), (by first | with_reducible assumption | go_simp), (by first | with_reducible assumption | go_simp), (by first | with_reducible assumption | go_simp), (by first | with_reducible assumption | go_simp), (by first | with_reducible assumption | go_simp), (by first | with_reducible assumption | go_simp), (by first | with_reducible assumption | go_simp), (by first | with_reducible assumption | go_simp), (by first | with_reducible assumption | go_simp), (by first | with_reducible assumption | go_simp), (by first | with_reducible assumption | go_simp), (by first | with_reducible assumption | go_simp), (by first | with_reducible assumption | go_simp), (by first | with_reducible assumption | go_simp)⟩
      · skip
        subst e1
        replace e2 := Lib.hid e2
        clear h1
        go_wp2_with fail
        refine (refSpot_e T E1 _ e2).mono ?_; rintro e w2 ⟨rfl, hb⟩
        obtain ⟨hc2, hf2⟩ := bcell hb
        have z2 := hb.size
        try simp only [World.size_alloc, World.size_setCell, World.size_drew] at z2
        have s2_0 : w.heap.size < w2.heap.size := by omega
        have s2_1 : w.heap.size + 1 < w2.heap.size := by omega
        have s2_2 : w.heap.size + 1 + 1 < w2.heap.size := by omega
        have s2_3 : w.heap.size + 1 + 1 + 1 < w2.heap.size := by omega
        have hB2 : Below w.heap.size w w2 := below_seq (by repeat (first | with_reducible exact hB1 | with_reducible exact Below.refl _ _ | with_reducible refine below_set ?_ (by first | omega | (dsimp only; omega)) _ | with_reducible refine balloc ?_ _ | with_reducible refine Below.drew ?_ | with_reducible refine below_drewN ?_ _ | exact hB1 | exact Below.refl _ _ | refine balloc ?_ _ | refine Below.drew ?_ | refine below_drewN ?_ _ | refine below_set ?_ (by first | omega | (dsimp only; omega)) _)) hb
        clear hb
        have m2_0_0 : w2.cell? ⟨w.heap.size, 0, none⟩ = some (.int .i64 T.x) := by go_simp
        have m2_0_1 : w2.cell? ⟨w.heap.size, 1, none⟩ = some (.int .i64 T.y) := by go_simp
        have m2_0_2 : w2.cell? ⟨w.heap.size, 2, none⟩ = some (.bool T.far) := by go_simp
        have m2_1_0 : w2.cell? ⟨w.heap.size + 1, 0, none⟩ = some (.int .i64 key.x) := by go_simp
        have m2_1_1 : w2.cell? ⟨w.heap.size + 1, 1, none⟩ = some (.int .i64 key.y) := by go_simp
        have m2_1_2 : w2.cell? ⟨w.heap.size + 1, 2, none⟩ = some (.bool key.far) := by go_simp
        have m2_2_0 : w2.cell? ⟨w.heap.size + 1 + 1, 0, none⟩ = some (.int .i64 P.x) := by go_simp
        have m2_2_1 : w2.cell? ⟨w.heap.size + 1 + 1, 1, none⟩ = some (.int .i64 P.y) := by go_simp
        have m2_2_2 : w2.cell? ⟨w.heap.size + 1 + 1, 2, none⟩ = some (.bool P.far) := by go_simp
        have m2_2_3 : w2.cell? ⟨w.heap.size + 1 + 1, 3, none⟩ = some (.int .i64 PS) := by go_simp
        have m2_3_0 : w2.cell? ⟨w.heap.size + 1 + 1 + 1, 0, none⟩ = some (.int .i64 Q.x) := by go_simp
        have m2_3_1 : w2.cell? ⟨w.heap.size + 1 + 1 + 1, 1, none⟩ = some (.int .i64 Q.y) := by go_simp
        have m2_3_2 : w2.cell? ⟨w.heap.size + 1 + 1 + 1, 2, none⟩ = some (.bool Q.far) := by go_simp
        have m2_3_3 : w2.cell? ⟨w.heap.size + 1 + 1 + 1, 3, none⟩ = some (.int .i64 QS) := by go_simp
        clear m1_0_0 m1_0_1 m1_0_2 m1_1_0 m1_1_1 m1_1_2 m1_2_0 m1_2_1 m1_2_2 m1_2_3 m1_3_0 m1_3_1 m1_3_2 m1_3_3
        clear hc2
        clear hB1 s1_0 s1_1 s1_2 s1_3 hf2
        go_wp2_with fail
        go_meet
        exact ⟨rfl, (by repeat (first | with_reducible exact hB2 | with_reducible exact Below.refl _ _ | with_reducible refine below_set ?_ (by first | omega | (dsimp only; omega)) _ | with_reducible refine balloc ?_ _ | with_reducible refine Below.drew ?_ | with_reducible refine below_drewN ?_ _ | exact hB2 | exact Below.refl _ _ | refine balloc ?_ _ | refine Below.drew ?_ | refine below_drewN ?_ _ | refine below_set ?_ (by first | omega | (dsimp only; omega)) _)), (by first | with_reducible assumption | omega | (simp only [World.heap_drewN, World.size_alloc, World.size_setCell, World.size_drew]; omega)), (by first | with_reducible assumption | omega | (simp only [World.heap_drewN, World.size_alloc, World.size_setCell, World.size_drew]; omega)), (by first | with_reducible assumption | omega | (simp only [World.heap_drewN, World.size_alloc, World.size_setCell, World.size_drew]; omega)), (by first | with_reducible assumption | omega | (simp only [World.heap_drewN, World.size_alloc, World.size_setCell, World.size_drew]; omega)), (by first | with_reducible assumption | go_simp), (by first | with_reducible assumption | go_simp), (by first | with_reducible assumption | go_simp), (by first | with_reducible assumption | go_simp), (by first | with_reducible assumption | go_simp), (by first | with_reducible assumption | go_simp), (by first | with_reducible assumption | go_simp), (by first | with_reducible assumption | go_simp), (by first | with_reducible assumption | go_simp), (by first | with_reducible assumption | go_simp), (by first | with_reducible assumption | go_simp), (by first | with_reducible assumption | go_simp), (by first | with_reducible assumption | go_simp), (by first | with_reducible assumption | go_simp)⟩
    case rest =>
      obtain ⟨w2, hwq⟩ : ∃ x, x = wc := ⟨_, rfl⟩
      subst hwq
      obtain ⟨rfl, hB2, s2_0, s2_1, s2_2, s2_3, m2_0_0, m2_0_1, m2_0_2, m2_1_0, m2_1_1, m2_1_2, m2_2_0, m2_2_1, m2_2_2, m2_2_3, m2_3_0, m2_3_1, m2_3_2, m2_3_3⟩ := hcut
      clear m1_0_0 m1_0_1 m1_0_2 m1_1_0 m1_1_1 m1_1_2 m1_2_0 m1_2_1 m1_2_2 m1_2_3 m1_3_0 m1_3_1 m1_3_2 m1_3_3
      clear hB1 s1_0 s1_1 s1_2 s1_3
      clear h1
      go_upto_region 7 with fail
      go_cut [51] from 45 to 50 (fun s51 wx => s51 = .bool B4 ∧ Below w.heap.size w wx ∧ w.heap.size < wx.heap.size ∧ w.heap.size + 1 < wx.heap.size ∧ w.heap.size + 1 + 1 < wx.heap.size ∧ w.heap.size + 1 + 1 + 1 < wx.heap.size ∧ wx.cell? ⟨w.heap.size, 0, none⟩ = some (.int .i64 T.x) ∧ wx.cell? ⟨w.heap.size, 1, none⟩ = some (.int .i64 T.y) ∧ wx.cell? ⟨w.heap.size, 2, none⟩ = some (.bool T.far) ∧ wx.cell? ⟨w.heap.size + 1, 0, none⟩ = some (.int .i64 key.x) ∧ wx.cell? ⟨w.heap.size + 1, 1, none⟩ = some (.int .i64 key.y) ∧ wx.cell? ⟨w.heap.size + 1, 2, none⟩ = some (.bool key.far) ∧ wx.cell? ⟨w.heap.size + 1 + 1, 0, none⟩ = some (.int .i64 P.x) ∧ wx.cell? ⟨w.heap.size + 1 + 1, 1, none⟩ = some (.int .i64 P.y) ∧ wx.cell? ⟨w.heap.size + 1 + 1, 2, none⟩ = some (.bool P.far) ∧ wx.cell? ⟨w.heap.size + 1 + 1, 3, none⟩ = some (.int .i64 PS) ∧ wx.cell? ⟨w.heap.size + 1 + 1 + 1, 0, none⟩ = some (.int .i64 Q.x) ∧ wx.cell? ⟨w.heap.size + 1 + 1 + 1, 1, none⟩ = some (.int .i64 Q.y) ∧ wx.cell? ⟨w.heap.size + 1 + 1 + 1, 2, none⟩ = some (.bool Q.far) ∧ wx.cell? ⟨w.heap.size + 1 + 1 + 1, 3, none⟩ = some (.int .i64 QS))
      case first =>
        rcases h2.out with ⟨e1, e2, e3⟩ | ⟨e1, e2, e3⟩ | ⟨e1, e2⟩
        · subst e1 e3
          clear h2
          go_wp2_with fail
          go_meet
          exact ⟨(congrArg Value.bool (by simp; omega)), (by repeat (first | with_reducible exact hB2 | with_reducible exact Below.refl _ _ | with_reducible refine below_set ?_ (by first | omega | (dsimp only; omega)) _ | with_reducible refine balloc ?_ _ | with_reducible refine Below.drew ?_ | with_reducible refine below_drewN ?_ _ | exact hB2 | exact Below.refl _ _ | refine balloc ?_ _ | refine Below.drew ?_ | refine below_drewN ?_ _ | refine below_set ?_ (by first | omega | (dsimp only; omega)) _)), (by first | with_reducible assumption | omega | (simp only [World.heap_drewN, World.size_alloc, World.size_setCell, World.size_drew]; omega)), (by first | with_reducible assumption | omega | (simp only [World.heap_drewN, World.size_alloc, World.size_setCell, World.size_drew]; omega)), (by first | with_reducible assumption | omega | (simp only [World.heap_drewN, World.size_alloc, World.size_setCell, World.size_drew]; omega)), (by first | with_reducible assumption | omega | (simp only [World.heap_drewN, World.size_alloc, World.size_setCell, World.size_drew]; omega)), (by first | with_reducible assumption | go_simp), (by first | with_reducible assumption | go_simp), (by first | with_reducible assumption | go_simp), (by first | with_reducible assumption | go_simp), (by first | with_reducible assumption | go_simp), (by first | with_reducible assumption | go_simp), (by first | with_reducible assumption | go_simp), (by first | with_reducible assumption | go_simp), (by first | with_reducible assumption | go_simp), (by first | with_reducible assumption | go_simp), (by first | with_reducible assumption | go_simp), (by first | with_reducible assumption | go_simp), (by first | with_reducible assumption | go_simp), (by first | with_reducible assumption | go_simp)⟩
        · skip
          subst e1 e3
          clear h2
          go_wp2_with fail
          go_meet
          exact ⟨(congrArg Value.bool (by simp; omega)), (by repeat (first | with_reducible exact hB2 | with_reducible exact Below.refl _ _ | with_reducible refine below_set ?_ (by first | omega | (dsimp only; omega)) _ | with_reducible refine balloc ?_ _ | with_reducible refine Below.drew ?_ | with_reducible refine below_drewN ?_ _ | exact hB2 | exact Below.refl _ _ | refine balloc ?_ _ | refine Below.drew ?_ | refine below_drewN ?_ _ | refine below_set ?_ (by first | omega | (dsimp only; omega)) _)), (by first | with_reducible assumption | omega | (simp only [World.heap_drewN, World.size_alloc, World.size_setCell, World.size_drew]; omega)), (by first | with_reducible assumption | omega | (simp only [World.heap_drewN, World.size_alloc, World.size_setCell, World.size_drew]; omega)), (by first | with_reducible assumption | omega | (simp only [World.heap_drewN, World.size_alloc, World.size_setCell, World.size_drew]; omega)), (by first | with_reducible assumption | omega | (simp only [World.heap_drewN, World.size_alloc, World.size_setCell, World.size_drew]; omega)), (by first | with_reducible assumption | go_simp), (by first | with_reducible assumption | go_simp), (by first | with_reducible assumption | go_simp), (by first | with_reducible assumption | go_simp), (by first | with_reducible assumption | go_simp), (by first | with_reducible assumption | go_simp), (by first | with_reducible assumption | go_simp), (by first | with_reducible assumption | go_simp), (by first | with_reducible assumption | go_simp), (by first | with_reducible assumption | go_simp), (by first | with_reducible assumption | go_simp), (by first | with_reducible assumption | go_simp), (by first | with_reducible assumption | go_simp), (by first | with_reducible assumption | go_simp)⟩
        · skip
          subst e2
          clear h2
          go_wp2_with fail
          go_meet
          exact ⟨rfl, (by repeat (first | with_reducible exact hB2 | with_reducible exact Below.refl _ _ | with_reducible refine below_set ?_ (by first | omega | (dsimp only; omega)) _ | with_reducible refine balloc ?_ _ | with_reducible refine Below.drew ?_ | with_reducible refine below_drewN ?_ _ | exact hB2 | exact Below.refl _ _ | refine balloc ?_ _ | refine Below.drew ?_ | refine below_drewN ?_ _ | refine below_set ?_ (by first | omega | (dsimp only; omega)) _)), (by first | with_reducible assumption | omega | (simp only [World.heap_drewN, World.size_alloc, World.size_setCell, World.size_drew]; omega)), (by first | with_reducible assumption | omega | (simp only [World.heap_drewN, World.size_alloc, World.size_setCell, World.size_drew]; omega)), (by first | with_reducible assumption | omega | (simp only [World.heap_drewN, World.size_alloc, World.size_setCell, World.size_drew]; omega)), (by first | with_reducible assumption | omega | (simp only [World.heap_drewN, World.size_alloc, World.size_setCell, World.size_drew]; omega)), (by first | with_reducible assumption | go_simp), (by first | with_reducible assumption | go_simp), (by first | with_reducible assumption | go_simp), (by first | with_reducible assumption | go_simp), (by first | with_reducible assumption | go_simp), (by first | with_reducible assumption | go_simp), (by first | with_reducible assumption | go_simp), (by first | with_reducible assumption | go_simp), (by first | with_reducible assumption | go_simp), (by first | with_reducible assumption | go_simp), (by first | with_reducible assumption | go_simp), (by first | with_reducible assumption | go_simp), (by first | with_reducible assumption | go_simp), (by first | with_reducible assumption | go_simp)⟩
      case rest =>
        obtain ⟨w3, hwq⟩ : ∃ x, x = wc := ⟨_, rfl⟩
        subst hwq
        obtain ⟨rfl, hB3, s3_0, s3_1, s3_2, s3_3, m3_0_0, m3_0_1, m3_0_2, m3_1_0, m3_1_1, m3_1_2, m3_2_0, m3_2_1, m3_2_2, m3_2_3, m3_3_0, m3_3_1, m3_3_2, m3_3_3⟩ := hcut
        clear m2_0_0 m2_0_1 m2_0_2 m2_1_0 m2_1_1 m2_1_2 m2_2_0 m2_2_1 m2_2_2 m2_2_3 m2_3_0 m2_3_1 m2_3_2 m2_3_3
        clear hB2 s2_0 s2_1 s2_2 s2_3
        clear h2
        go_upto_if 51 with fail
        go_cut [17] from 52 to 52 (fun s17 wx => s17 = .int .i64 E2 ∧ Below w.heap.size w wx ∧ w.heap.size < wx.heap.size ∧ w.heap.size + 1 < wx.heap.size ∧ w.heap.size + 1 + 1 < wx.heap.size ∧ w.heap.size + 1 + 1 + 1 < wx.heap.size ∧ wx.cell? ⟨w.heap.size, 0, none⟩ = some (.int .i64 T.x) ∧ wx.cell? ⟨w.heap.size, 1, none⟩ = some (.int .i64 T.y) ∧ wx.cell? ⟨w.heap.size, 2, none⟩ = some (.bool T.far) ∧ wx.cell? ⟨w.heap.size + 1, 0, none⟩ = some (.int .i64 key.x) ∧ wx.cell? ⟨w.heap.size + 1, 1, none⟩ = some (.int .i64 key.y) ∧ wx.cell? ⟨w.heap.size + 1, 2, none⟩ = some (.bool key.far) ∧ wx.cell? ⟨w.heap.size + 1 + 1, 0, none⟩ = some (.int .i64 P.x) ∧ wx.cell? ⟨w.heap.size + 1 + 1, 1, none⟩ = some (.int .i64 P.y) ∧ wx.cell? ⟨w.heap.size + 1 + 1, 2, none⟩ = some (.bool P.far) ∧ wx.cell? ⟨w.heap.size + 1 + 1, 3, none⟩ = some (.int .i64 PS) ∧ wx.cell? ⟨w.heap.size + 1 + 1 + 1, 0, none⟩ = some (.int .i64 Q.x) ∧ wx.cell? ⟨w.heap.size + 1 + 1 + 1, 1, none⟩ = some (.int .i64 Q.y) ∧ wx.cell? ⟨w.heap.size + 1 + 1 + 1, 2, none⟩ = some (.bool Q.far) ∧ wx.cell? ⟨w.heap.size + 1 + 1 + 1, 3, none⟩ = some (.int .i64 QS))
        case first =>
          rcases h3.out with ⟨e1, e2⟩ | ⟨e1, e2⟩
          · subst e1 e2
            clear h3
            go_wp2_with fail
            go_meet
            exact ⟨rfl, (by repeat (first | with_reducible exact hB3 | with_reducible exact Below.refl _ _ | with_reducible refine below_set ?_ (by first | omega | (dsimp only; omega)) _ | with_reducible refine balloc ?_ _ | with_reducible refine Below.drew ?_ | with_reducible refine below_drewN ?_ _ | exact hB3 | exact Below.refl _ _ | refine balloc ?_ _ | refine Below.drew ?_ | refine below_drewN ?_ _ | refine below_set ?_ (by first | omega | (dsimp only; omega)) _)), (by first | with_reducible assumption | omega | (simp only [World.heap_drewN, World.size_alloc, World.size_setCell, World.size_drew]; omega)), (by first | with_reducible assumption | omega | (simp only [World.heap_drewN, World.size_alloc, World.size_setCell, World.size_drew]; omega)), (by first | with_reducible assumption | omega | (simp only [World.heap_drewN, World.size_alloc, World.size_setCell, World.size_drew]; omega)), (by first | with_reducible assumption | omega | (simp only [World.heap_drewN, World.size_alloc, World.size_setCell, World.size_drew]; omega)), (by first | with_reducible assumption | go_simp), (by first | with_reducible assumption | go_simp), (by first | with_reducible assumption | go_simp), (by first | with_reducible assumption | go_simp), (by first | with_reducible assumption | go_simp), (by first | with_reducible assumption | go_simp), (by first | with_reducible assumption | go_simp), (by first | with_reducible assumption | go_simp), (by first | with_reducible assumption | go_simp), (by first | with_reducible assumption | go_simp), (by first | with_reducible assumption | go_simp), (by first | with_reducible assumption | go_simp), (by first | with_reducible assumption | go_simp), (by first | with_reducible assumption | go_simp)⟩
          · skip
            subst e1 e2
            clear h3
            go_wp2_with fail
            go_meet
            exact ⟨rfl, (by repeat (first | with_reducible exact hB3 | with_reducible exact Below.refl _ _ | with_reducible refine below_set ?_ (by first | omega | (dsimp only; omega)) _ | with_reducible refine balloc ?_ _ | with_reducible refine Below.drew ?_ | with_reducible refine below_drewN ?_ _ | exact hB3 | exact Below.refl _ _ | refine balloc ?_ _ | refine Below.drew ?_ | refine below_drewN ?_ _ | refine below_set ?_ (by first | omega | (dsimp only; omega)) _)), (by first | with_reducible assumption | omega | (simp only [World.heap_drewN, World.size_alloc, World.size_setCell, World.size_drew]; omega)), (by first | with_reducible assumption | omega | (simp only [World.heap_drewN, World.size_alloc, World.size_setCell, World.size_drew]; omega)), (by first | with_reducible assumption | omega | (simp only [World.heap_drewN, World.size_alloc, World.size_setCell, World.size_drew]; omega)), (by first | with_reducible assumption | omega | (simp only [World.heap_drewN, World.size_alloc, World.size_setCell, World.size_drew]; omega)), (by first | with_reducible assumption | go_simp), (by first | with_reducible assumption | go_simp), (by first | with_reducible assumption | go_simp), (by first | with_reducible assumption | go_simp), (by first | with_reducible assumption | go_simp), (by first | with_reducible assumption | go_simp), (by first | with_reducible assumption | go_simp), (by first | with_reducible assumption | go_simp), (by first | with_reducible assumption | go_simp), (by first | with_reducible assumption | go_simp), (by first | with_reducible assumption | go_simp), (by first | with_reducible assumption | go_simp), (by first | with_reducible assumption | go_simp), (by first | with_reducible assumption | go_simp)⟩
        case rest =>
          obtain ⟨w4, hwq⟩ : ∃ x, x = wc := ⟨_, rfl⟩
          subst hwq
          obtain ⟨rfl, hB4, s4_0, s4_1, s4_2, s4_3, m4_0_0, m4_0_1, m4_0_2, m4_1_0, m4_1_1, m4_1_2, m4_2_0, m4_2_1, m4_2_2, m4_2_3, m4_3_0, m4_3_1, m4_3_2, m4_3_3⟩ := hcut
          clear m3_0_0 m3_0_1 m3_0_2 m3_1_0 m3_1_1 m3_1_2 m3_2_0 m3_2_1 m3_2_2 m3_2_3 m3_3_0 m3_3_1 m3_3_2 m3_3_3
          clear hB3 s3_0 s3_1 s3_2 s3_3
          clear h3
          go_upto_if 53 with fail
          go_cut [21, 22] from 53 to 69 (fun s21 s22 wx => True ∧ Below w.heap.size w wx ∧ w.heap.size < wx.heap.size ∧ w.heap.size + 1 < wx.heap.size ∧ w.heap.size + 1 + 1 < wx.heap.size ∧ w.heap.size + 1 + 1 + 1 < wx.heap.size ∧ w4.heap.size < wx.heap.size ∧ wx.cell? ⟨w.heap.size, 0, none⟩ = some (.int .i64 T.x) ∧ wx.cell? ⟨w.heap.size, 1, none⟩ = some (.int .i64 T.y) ∧ wx.cell? ⟨w.heap.size, 2, none⟩ = some (.bool T.far) ∧ wx.cell? ⟨w.heap.size + 1, 0, none⟩ = some (.int .i64 key.x) ∧ wx.cell? ⟨w.heap.size + 1, 1, none⟩ = some (.int .i64 key.y) ∧ wx.cell? ⟨w.heap.size + 1, 2, none⟩ = some (.bool key.far) ∧ wx.cell? ⟨w.heap.size + 1 + 1, 0, none⟩ = some (.int .i64 P.x) ∧ wx.cell? ⟨w.heap.size + 1 + 1, 1, none⟩ = some (.int .i64 P.y) ∧ wx.cell? ⟨w.heap.size + 1 + 1, 2, none⟩ = some (.bool P.far) ∧ wx.cell? ⟨w.heap.size + 1 + 1, 3, none⟩ = some (.int .i64 PS) ∧ wx.cell? ⟨w.heap.size + 1 + 1 + 1, 0, none⟩ = some (.int .i64 Q.x) ∧ wx.cell? ⟨w.heap.size + 1 + 1 + 1, 1, none⟩ = some (.int .i64 Q.y) ∧ wx.cell? ⟨w.heap.size + 1 + 1 + 1, 2, none⟩ = some (.bool Q.far) ∧ wx.cell? ⟨w.heap.size + 1 + 1 + 1, 3, none⟩ = some (.int .i64 QS) ∧ wx.cell? ⟨w4.heap.size, 0, none⟩ = some (.int .i64 Z.x) ∧ wx.cell? ⟨w4.heap.size, 1, none⟩ = some (.int .i64 Z.y) ∧ wx.cell? ⟨w4.heap.size, 2, none⟩ = some (.bool Z.far) ∧ wx.cell? ⟨w4.heap.size, 3, none⟩ = some (.int .i64 Y) ∧ wx.frozen? ⟨w4.heap.size, 0, none⟩ = false ∧ wx.frozen? ⟨w4.heap.size, 1, none⟩ = false ∧ wx.frozen? ⟨w4.heap.size, 2, none⟩ = false ∧ wx.frozen? ⟨w4.heap.size, 3, none⟩ = false)
          case first =>
            rcases h4.out with ⟨e1, x1, x2, k1, k2, hz6, kS, hK, oZ, oK, hc, m0, m1, hY⟩ | ⟨e1, e2, e3⟩
            · subst e1 hY
              replace kS := Lib.hid kS
              replace hK := Lib.hid hK
              replace hc := Lib.hid hc
              clear h4
              have xa : -9223372036854775808 ≤ x := by omega
              have xb : x ≤ 9223372036854775807 := by omega
              have ka : -9223372036854775808 ≤ k := by omega
              have kb : k ≤ 9223372036854775807 := by omega
              go_wp2_with fail
              refine (kS.out _).mono ?_; rintro e w5 ⟨rfl, hb⟩
              obtain ⟨hc5, hf5⟩ := bcell hb
              have z5 := hb.size
              try simp only [World.size_alloc, World.size_setCell, World.size_drew] at z5
              have s5_0 : w.heap.size < w5.heap.size := by omega
              have s5_1 : w.heap.size + 1 < w5.heap.size := by omega
              have s5_2 : w.heap.size + 1 + 1 < w5.heap.size := by omega
              have s5_3 : w.heap.size + 1 + 1 + 1 < w5.heap.size := by omega
              have s5_4 : w4.heap.size < w5.heap.size := by omega
              have hB5 : Below w.heap.size w w5 := below_seq (by repeat (first | with_reducible exact hB4 | with_reducible exact Below.refl _ _ | with_reducible refine below_set ?_ (by first | omega | (dsimp only; omega)) _ | with_reducible refine balloc ?_ _ | with_reducible refine Below.drew ?_ | with_reducible refine below_drewN ?_ _ | exact hB4 | exact Below.refl _ _ | refine balloc ?_ _ | refine Below.drew ?_ | refine below_drewN ?_ _ | refine below_set ?_ (by first | omega | (dsimp only; omega)) _)) hb
              clear hb
              have m5_0_0 : w5.cell? ⟨w.heap.size, 0, none⟩ = some (.int .i64 T.x) := by go_simp
              have m5_0_1 : w5.cell? ⟨w.heap.size, 1, none⟩ = some (.int .i64 T.y) := by go_simp
              have m5_0_2 : w5.cell? ⟨w.heap.size, 2, none⟩ = some (.bool T.far) := by go_simp
              have m5_1_0 : w5.cell? ⟨w.heap.size + 1, 0, none⟩ = some (.int .i64 key.x) := by go_simp
              have m5_1_1 : w5.cell? ⟨w.heap.size + 1, 1, none⟩ = some (.int .i64 key.y) := by go_simp
              have m5_1_2 : w5.cell? ⟨w.heap.size + 1, 2, none⟩ = some (.bool key.far) := by go_simp
              have m5_2_0 : w5.cell? ⟨w.heap.size + 1 + 1, 0, none⟩ = some (.int .i64 P.x) := by go_simp
              have m5_2_1 : w5.cell? ⟨w.heap.size + 1 + 1, 1, none⟩ = some (.int .i64 P.y) := by go_simp
              have m5_2_2 : w5.cell? ⟨w.heap.size + 1 + 1, 2, none⟩ = some (.bool P.far) := by go_simp
              have m5_2_3 : w5.cell? ⟨w.heap.size + 1 + 1, 3, none⟩ = some (.int .i64 PS) := by go_simp
              have m5_3_0 : w5.cell? ⟨w.heap.size + 1 + 1 + 1, 0, none⟩ = some (.int .i64 Q.x) := by go_simp
              have m5_3_1 : w5.cell? ⟨w.heap.size + 1 + 1 + 1, 1, none⟩ = some (.int .i64 Q.y) := by go_simp
              have m5_3_2 : w5.cell? ⟨w.heap.size + 1 + 1 + 1, 2, none⟩ = some (.bool Q.far) := by go_simp
              have m5_3_3 : w5.cell? ⟨w.heap.size + 1 + 1 + 1, 3, none⟩ = some (.int .i64 QS) := by go_simp
              have m5_4_0 : w5.cell? ⟨w4.heap.size, 0, none⟩ = some (.int .i64 0) := by go_simp
              have m5_4_1 : w5.cell? ⟨w4.heap.size, 1, none⟩ = some (.int .i64 0) := by go_simp
              have m5_4_2 : w5.cell? ⟨w4.heap.size, 2, none⟩ = some (.bool false) := by go_simp
              have m5_4_3 : w5.cell? ⟨w4.heap.size, 3, none⟩ = some (.int .i64 0) := by go_simp
              clear m4_0_0 m4_0_1 m4_0_2 m4_1_0 m4_1_1 m4_1_2 m4_2_0 m4_2_1 m4_2_2 m4_2_3 m4_3_0 m4_3_1 m4_3_2 m4_3_3
              clear hc5
              have y5_0_0 : w5.frozen? ⟨w4.heap.size, 0, none⟩ = false := by go_simp
              have y5_0_1 : w5.frozen? ⟨w4.heap.size, 1, none⟩ = false := by go_simp
              have y5_0_2 : w5.frozen? ⟨w4.heap.size, 2, none⟩ = false := by go_simp
              have y5_0_3 : w5.frozen? ⟨w4.heap.size, 3, none⟩ = false := by go_simp
              clear hB4 hf5
              go_wp2_with fail
              refine wp_region_grow Tryd.mixed (by kernel_rfl) ?_
              repeat (go_big_quiet_step ((first | (go_at_call 37; exact grow_of (refBy_e x K _ xa xb hK)) | (go_at_call 28; exact grow_of (rAsk_e Z K text c _ oZ oK hz6 hc)))))
              refine wpQuiet_nil ?_
              intro _ hw'
              obtain ⟨x6, rfl⟩ := hw'
              have z6 := x6.h.size
              try simp only [World.size_alloc, World.size_setCell, World.size_drew] at z6
              have s6_0 : w.heap.size < x6.w.heap.size := by omega
              have s6_1 : w.heap.size + 1 < x6.w.heap.size := by omega
              have s6_2 : w.heap.size + 1 + 1 < x6.w.heap.size := by omega
              have s6_3 : w.heap.size + 1 + 1 + 1 < x6.w.heap.size := by omega
              have s6_4 : w4.heap.size < x6.w.heap.size := by omega
              have s6_5 : w5.heap.size < x6.w.heap.size := by omega
              have hB6 : Below w.heap.size w x6.w := below_seq (by repeat (first | with_reducible exact hB5 | with_reducible exact Below.refl _ _ | with_reducible refine below_set ?_ (by first | omega | (dsimp only; omega)) _ | with_reducible refine balloc ?_ _ | with_reducible refine Below.drew ?_ | with_reducible refine below_drewN ?_ _ | exact hB5 | exact Below.refl _ _ | refine balloc ?_ _ | refine Below.drew ?_ | refine below_drewN ?_ _ | refine below_set ?_ (by first | omega | (dsimp only; omega)) _)) x6.h
              have m6_0_0 : x6.w.cell? ⟨w.heap.size, 0, none⟩ = some (.int .i64 T.x) := by go_simp
              have m6_0_1 : x6.w.cell? ⟨w.heap.size, 1, none⟩ = some (.int .i64 T.y) := by go_simp
              have m6_0_2 : x6.w.cell? ⟨w.heap.size, 2, none⟩ = some (.bool T.far) := by go_simp
              have m6_1_0 : x6.w.cell? ⟨w.heap.size + 1, 0, none⟩ = some (.int .i64 key.x) := by go_simp
              have m6_1_1 : x6.w.cell? ⟨w.heap.size + 1, 1, none⟩ = some (.int .i64 key.y) := by go_simp
              have m6_1_2 : x6.w.cell? ⟨w.heap.size + 1, 2, none⟩ = some (.bool key.far) := by go_simp
              have m6_2_0 : x6.w.cell? ⟨w.heap.size + 1 + 1, 0, none⟩ = some (.int .i64 P.x) := by go_simp
              have m6_2_1 : x6.w.cell? ⟨w.heap.size + 1 + 1, 1, none⟩ = some (.int .i64 P.y) := by go_simp
              have m6_2_2 : x6.w.cell? ⟨w.heap.size + 1 + 1, 2, none⟩ = some (.bool P.far) := by go_simp
              have m6_2_3 : x6.w.cell? ⟨w.heap.size + 1 + 1, 3, none⟩ = some (.int .i64 PS) := by go_simp
              have m6_3_0 : x6.w.cell? ⟨w.heap.size + 1 + 1 + 1, 0, none⟩ = some (.int .i64 Q.x) := by go_simp
              have m6_3_1 : x6.w.cell? ⟨w.heap.size + 1 + 1 + 1, 1, none⟩ = some (.int .i64 Q.y) := by go_simp
              have m6_3_2 : x6.w.cell? ⟨w.heap.size + 1 + 1 + 1, 2, none⟩ = some (.bool Q.far) := by go_simp
              have m6_3_3 : x6.w.cell? ⟨w.heap.size + 1 + 1 + 1, 3, none⟩ = some (.int .i64 QS) := by go_simp
              have m6_4_0 : x6.w.cell? ⟨w4.heap.size, 0, none⟩ = some (.int .i64 0) := by go_simp
              have m6_4_1 : x6.w.cell? ⟨w4.heap.size, 1, none⟩ = some (.int .i64 0) := by go_simp
              have m6_4_2 : x6.w.cell? ⟨w4.heap.size, 2, none⟩ = some (.bool false) := by go_simp
              have m6_4_3 : x6.w.cell? ⟨w4.heap.size, 3, none⟩ = some (.int .i64 0) := by go_simp
              have m6_5_0 : x6.w.cell? ⟨w5.heap.size, 0, none⟩ = some (.int .i64 Z.x) := by go_simp
              have m6_5_1 : x6.w.cell? ⟨w5.heap.size, 1, none⟩ = some (.int .i64 Z.y) := by go_simp
              have m6_5_2 : x6.w.cell? ⟨w5.heap.size, 2, none⟩ = some (.bool Z.far) := by go_simp
              clear m5_0_0 m5_0_1 m5_0_2 m5_1_0 m5_1_1 m5_1_2 m5_2_0 m5_2_1 m5_2_2 m5_2_3 m5_3_0 m5_3_1 m5_3_2 m5_3_3 m5_4_0 m5_4_1 m5_4_2 m5_4_3
              obtain ⟨-, hf6⟩ := bcell x6.h
              have y6_0_0 : x6.w.frozen? ⟨w4.heap.size, 0, none⟩ = false := by go_simp
              have y6_0_1 : x6.w.frozen? ⟨w4.heap.size, 1, none⟩ = false := by go_simp
              have y6_0_2 : x6.w.frozen? ⟨w4.heap.size, 2, none⟩ = false := by go_simp
              have y6_0_3 : x6.w.frozen? ⟨w4.heap.size, 3, none⟩ = false := by go_simp
              clear z5 hB5 y5_0_0 y5_0_1 y5_0_2 y5_0_3 hf6
              go_wp2_with fail
              go_meet
              exact ⟨trivial, (by repeat (first | with_reducible exact hB6 | with_reducible exact Below.refl _ _ | with_reducible refine below_set ?_ (by first | omega | (dsimp only; omega)) _ | with_reducible refine balloc ?_ _ | with_reducible refine Below.drew ?_ | with_reducible refine below_drewN ?_ _ | exact hB6 | exact Below.refl _ _ | refine balloc ?_ _ | refine Below.drew ?_ | refine below_drewN ?_ _ | refine below_set ?_ (by first | omega | (dsimp only; omega)) _)), (by first | with_reducible assumption | omega | (simp only [World.heap_drewN, World.size_alloc, World.size_setCell, World.size_drew]; omega)), (by first | with_reducible assumption | omega | (simp only [World.heap_drewN, World.size_alloc, World.size_setCell, World.size_drew]; omega)), (by first | with_reducible assumption | omega | (simp only [World.heap_drewN, World.size_alloc, World.size_setCell, World.size_drew]; omega)), (by first | with_reducible assumption | omega | (simp only [World.heap_drewN, World.size_alloc, World.size_setCell, World.size_drew]; omega)), (by first | with_reducible assumption | omega | (simp only [World.heap_drewN, World.size_alloc, World.size_setCell, World.size_drew]; omega)), (by first | with_reducible assumption | go_simp), (by first | with_reducible assumption | go_simp), (by first | with_reducible assumption | go_simp), (by first | with_reducible assumption | go_simp), (by first | with_reducible assumption | go_simp), (by first | with_reducible assumption | go_simp), (by first | with_reducible assumption | go_simp), (by first | with_reducible assumption | go_simp), (by first | with_reducible assumption | go_simp), (by first | with_reducible assumption | go_simp), (by first | with_reducible assumption | go_simp), (by first | with_reducible assumption | go_simp), (by first | with_reducible assumption | go_simp), (by first | with_reducible assumption | go_simp), (by first | with_reducible assumption | go_simp), (by first | with_reducible assumption | go_simp), (by first | with_reducible assumption | go_simp), (by first | with_reducible assumption | go_simp), (by first | with_reducible assumption | go_simp), (by first | with_reducible assumption | go_simp), (by first | with_reducible assumption | go_simp), (by first | with_reducible assumption | go_simp)⟩
            · skip
              subst e2 e3
              clear h4
              go_wp2_with fail
              go_meet
              exact ⟨trivial, (by repeat (first | with_reducible exact hB4 | with_reducible exact Below.refl _ _ | with_reducible refine below_set ?_ (by first | omega | (dsimp only; omega)) _ | with_reducible refine balloc ?_ _ | with_reducible refine Below.drew ?_ | with_reducible refine below_drewN ?_ _ | exact hB4 | exact Below.refl _ _ | refine balloc ?_ _ | refine Below.drew ?_ | refine below_drewN ?_ _ | refine below_set ?_ (by first | omega | (dsimp only; omega)) _)), (by first | with_reducible assumption | omega | (simp only [World.heap_drewN, World.size_alloc, World.size_setCell, World.size_drew]; omega)), (by first | with_reducible assumption | omega | (simp only [World.heap_drewN, World.size_alloc, World.size_setCell, World.size_drew]; omega)), (by first | with_reducible assumption | omega | (simp only [World.heap_drewN, World.size_alloc, World.size_setCell, World.size_drew]; omega)), (by first | with_reducible assumption | omega | (simp only [World.heap_drewN, World.size_alloc, World.size_setCell, World.size_drew]; omega)), (by first | with_reducible assumption | omega | (simp only [World.heap_drewN, World.size_alloc, World.size_setCell, World.size_drew]; omega)), (by first | with_reducible assumption | go_simp), (by first | with_reducible assumption | go_simp), (by first | with_reducible assumption | go_simp), (by first | with_reducible assumption | go_simp), (by first | with_reducible assumption | go_simp), (by first | with_reducible assumption | go_simp), (by first | with_reducible assumption | go_simp), (by first | with_reducible assumption | go_simp), (by first | with_reducible assumption | go_simp), (by first | with_reducible assumption | go_simp), (by first | with_reducible assumption | go_simp), (by first | with_reducible assumption | go_simp), (by first | with_reducible assumption | go_simp), (by first | with_reducible assumption | go_simp), (by first | with_reducible assumption | go_simp), (by first | with_reducible assumption | go_simp), (by first | with_reducible assumption | go_simp), (by first | with_reducible assumption | go_simp), (by first | with_reducible assumption | go_simp), (by first | with_reducible assumption | go_simp), (by first | with_reducible assumption | go_simp), (by first | with_reducible assumption | go_simp)⟩
          case rest =>
            obtain ⟨w5, hwq⟩ : ∃ x, x = wc := ⟨_, rfl⟩
            subst hwq
            obtain ⟨-, hB5, s5_0, s5_1, s5_2, s5_3, s5_4, m5_0_0, m5_0_1, m5_0_2, m5_1_0, m5_1_1, m5_1_2, m5_2_0, m5_2_1, m5_2_2, m5_2_3, m5_3_0, m5_3_1, m5_3_2, m5_3_3, m5_4_0, m5_4_1, m5_4_2, m5_4_3, y5_0_0, y5_0_1, y5_0_2, y5_0_3⟩ := hcut
            clear m4_0_0 m4_0_1 m4_0_2 m4_1_0 m4_1_1 m4_1_2 m4_2_0 m4_2_1 m4_2_2 m4_2_3 m4_3_0 m4_3_1 m4_3_2 m4_3_3
            clear hB4
            clear h4
            clear jB3
            go_wp2_with fail
            refine (kPre.out _ (hF.below (by repeat (first | with_reducible exact hB5 | with_reducible exact Below.refl _ _ | with_reducible refine below_set ?_ (by first | omega | (dsimp only; omega)) _ | with_reducible refine balloc ?_ _ | with_reducible refine Below.drew ?_ | with_reducible refine below_drewN ?_ _ | exact hB5 | exact Below.refl _ _ | refine balloc ?_ _ | refine Below.drew ?_ | refine below_drewN ?_ _ | refine below_set ?_ (by first | omega | (dsimp only; omega)) _)))).mono ?_; rintro e w6 ⟨rfl, hb⟩
            obtain ⟨hc6, hf6⟩ := bcell hb
            have z6 := hb.size
            try simp only [World.size_alloc, World.size_setCell, World.size_drew] at z6
            have s6_0 : w.heap.size < w6.heap.size := by omega
            have s6_1 : w.heap.size + 1 < w6.heap.size := by omega
            have s6_2 : w.heap.size + 1 + 1 < w6.heap.size := by omega
            have s6_3 : w.heap.size + 1 + 1 + 1 < w6.heap.size := by omega
            have s6_4 : w4.heap.size < w6.heap.size := by omega
            have hB6 : Below w.heap.size w w6 := below_seq (by repeat (first | with_reducible exact hB5 | with_reducible exact Below.refl _ _ | with_reducible refine below_set ?_ (by first | omega | (dsimp only; omega)) _ | with_reducible refine balloc ?_ _ | with_reducible refine Below.drew ?_ | with_reducible refine below_drewN ?_ _ | exact hB5 | exact Below.refl _ _ | refine balloc ?_ _ | refine Below.drew ?_ | refine below_drewN ?_ _ | refine below_set ?_ (by first | omega | (dsimp only; omega)) _)) hb
            clear hb
            have m6_0_0 : w6.cell? ⟨w.heap.size, 0, none⟩ = some (.int .i64 T.x) := by go_simp
            have m6_0_1 : w6.cell? ⟨w.heap.size, 1, none⟩ = some (.int .i64 T.y) := by go_simp
            have m6_0_2 : w6.cell? ⟨w.heap.size, 2, none⟩ = some (.bool T.far) := by go_simp
            have m6_1_0 : w6.cell? ⟨w.heap.size + 1, 0, none⟩ = some (.int .i64 key.x) := by go_simp
            have m6_1_1 : w6.cell? ⟨w.heap.size + 1, 1, none⟩ = some (.int .i64 key.y) := by go_simp
            have m6_1_2 : w6.cell? ⟨w.heap.size + 1, 2, none⟩ = some (.bool key.far) := by go_simp
            have m6_2_0 : w6.cell? ⟨w.heap.size + 1 + 1, 0, none⟩ = some (.int .i64 P.x) := by go_simp
            have m6_2_1 : w6.cell? ⟨w.heap.size + 1 + 1, 1, none⟩ = some (.int .i64 P.y) := by go_simp
            have m6_2_2 : w6.cell? ⟨w.heap.size + 1 + 1, 2, none⟩ = some (.bool P.far) := by go_simp
            have m6_2_3 : w6.cell? ⟨w.heap.size + 1 + 1, 3, none⟩ = some (.int .i64 PS) := by go_simp
            have m6_3_0 : w6.cell? ⟨w.heap.size + 1 + 1 + 1, 0, none⟩ = some (.int .i64 Q.x) := by go_simp
            have m6_3_1 : w6.cell? ⟨w.heap.size + 1 + 1 + 1, 1, none⟩ = some (.int .i64 Q.y) := by go_simp
            have m6_3_2 : w6.cell? ⟨w.heap.size + 1 + 1 + 1, 2, none⟩ = some (.bool Q.far) := by go_simp
            have m6_3_3 : w6.cell? ⟨w.heap.size + 1 + 1 + 1, 3, none⟩ = some (.int .i64 QS) := by go_simp
            have m6_4_0 : w6.cell? ⟨w4.heap.size, 0, none⟩ = some (.int .i64 Z.x) := by go_simp
            have m6_4_1 : w6.cell? ⟨w4.heap.size, 1, none⟩ = some (.int .i64 Z.y) := by go_simp
            have m6_4_2 : w6.cell? ⟨w4.heap.size, 2, none⟩ = some (.bool Z.far) := by go_simp
            have m6_4_3 : w6.cell? ⟨w4.heap.size, 3, none⟩ = some (.int .i64 Y) := by go_simp
            clear m5_0_0 m5_0_1 m5_0_2 m5_1_0 m5_1_1 m5_1_2 m5_2_0 m5_2_1 m5_2_2 m5_2_3 m5_3_0 m5_3_1 m5_3_2 m5_3_3 m5_4_0 m5_4_1 m5_4_2 m5_4_3
            clear hc6
            have y6_0_0 : w6.frozen? ⟨w4.heap.size, 0, none⟩ = false := by go_simp
            have y6_0_1 : w6.frozen? ⟨w4.heap.size, 1, none⟩ = false := by go_simp
            have y6_0_2 : w6.frozen? ⟨w4.heap.size, 2, none⟩ = false := by go_simp
            have y6_0_3 : w6.frozen? ⟨w4.heap.size, 3, none⟩ = false := by go_simp
            clear hB5 s5_0 s5_1 s5_2 s5_3 s5_4 y5_0_0 y5_0_1 y5_0_2 y5_0_3 hf6
            go_wp2_with fail
            refine (error_same (errV E2) E2 _ (hE.below (by repeat (first | with_reducible exact hB6 | with_reducible exact Below.refl _ _ | with_reducible refine below_set ?_ (by first | omega | (dsimp only; omega)) _ | with_reducible refine balloc ?_ _ | with_reducible refine Below.drew ?_ | with_reducible refine below_drewN ?_ _ | exact hB6 | exact Below.refl _ _ | refine balloc ?_ _ | refine Below.drew ?_ | refine below_drewN ?_ _ | refine below_set ?_ (by first | omega | (dsimp only; omega)) _))) (Lib.hid rfl)).mono ?_; rintro e w7 ⟨rfl, hb⟩
            obtain ⟨hc7, hf7⟩ := bcell hb
            have z7 := hb.size
            try simp only [World.size_alloc, World.size_setCell, World.size_drew] at z7
            have s7_0 : w.heap.size < w7.heap.size := by omega
            have s7_1 : w.heap.size + 1 < w7.heap.size := by omega
            have s7_2 : w.heap.size + 1 + 1 < w7.heap.size := by omega
            have s7_3 : w.heap.size + 1 + 1 + 1 < w7.heap.size := by omega
            have s7_4 : w4.heap.size < w7.heap.size := by omega
            have s7_5 : w6.heap.size < w7.heap.size := by omega
            have hB7 : Below w.heap.size w w7 := below_seq (by repeat (first | with_reducible exact hB6 | with_reducible exact Below.refl _ _ | with_reducible refine below_set ?_ (by first | omega | (dsimp only; omega)) _ | with_reducible refine balloc ?_ _ | with_reducible refine Below.drew ?_ | with_reducible refine below_drewN ?_ _ | exact hB6 | exact Below.refl _ _ | refine balloc ?_ _ | refine Below.drew ?_ | refine below_drewN ?_ _ | refine below_set ?_ (by first | omega | (dsimp only; omega)) _)) hb
            clear hb
            have m7_0_0 : w7.cell? ⟨w.heap.size, 0, none⟩ = some (.int .i64 T.x) := by go_simp
            have m7_0_1 : w7.cell? ⟨w.heap.size, 1, none⟩ = some (.int .i64 T.y) := by go_simp
            have m7_0_2 : w7.cell? ⟨w.heap.size, 2, none⟩ = some (.bool T.far) := by go_simp
            have m7_1_0 : w7.cell? ⟨w.heap.size + 1, 0, none⟩ = some (.int .i64 key.x) := by go_simp
            have m7_1_1 : w7.cell? ⟨w.heap.size + 1, 1, none⟩ = some (.int .i64 key.y) := by go_simp
            have m7_1_2 : w7.cell? ⟨w.heap.size + 1, 2, none⟩ = some (.bool key.far) := by go_simp
            have m7_2_0 : w7.cell? ⟨w.heap.size + 1 + 1, 0, none⟩ = some (.int .i64 P.x) := by go_simp
            have m7_2_1 : w7.cell? ⟨w.heap.size + 1 + 1, 1, none⟩ = some (.int .i64 P.y) := by go_simp
            have m7_2_2 : w7.cell? ⟨w.heap.size + 1 + 1, 2, none⟩ = some (.bool P.far) := by go_simp
            have m7_2_3 : w7.cell? ⟨w.heap.size + 1 + 1, 3, none⟩ = some (.int .i64 PS) := by go_simp
            have m7_3_0 : w7.cell? ⟨w.heap.size + 1 + 1 + 1, 0, none⟩ = some (.int .i64 Q.x) := by go_simp
            have m7_3_1 : w7.cell? ⟨w.heap.size + 1 + 1 + 1, 1, none⟩ = some (.int .i64 Q.y) := by go_simp
            have m7_3_2 : w7.cell? ⟨w.heap.size + 1 + 1 + 1, 2, none⟩ = some (.bool Q.far) := by go_simp
            have m7_3_3 : w7.cell? ⟨w.heap.size + 1 + 1 + 1, 3, none⟩ = some (.int .i64 QS) := by go_simp
            have m7_4_0 : w7.cell? ⟨w4.heap.size, 0, none⟩ = some (.int .i64 Z.x) := by go_simp
            have m7_4_1 : w7.cell? ⟨w4.heap.size, 1, none⟩ = some (.int .i64 Z.y) := by go_simp
            have m7_4_2 : w7.cell? ⟨w4.heap.size, 2, none⟩ = some (.bool Z.far) := by go_simp
            have m7_4_3 : w7.cell? ⟨w4.heap.size, 3, none⟩ = some (.int .i64 Y) := by go_simp
            have m7_5_0 : w7.cell? ⟨w6.heap.size, 0, none⟩ = some (.int .i64 Z.x) := by go_simp
            have m7_5_1 : w7.cell? ⟨w6.heap.size, 1, none⟩ = some (.int .i64 Z.y) := by go_simp
            have m7_5_2 : w7.cell? ⟨w6.heap.size, 2, none⟩ = some (.bool Z.far) := by go_simp
            have m7_5_3 : w7.cell? ⟨w6.heap.size, 3, none⟩ = some (.int .i64 Y) := by go_simp
            clear m6_0_0 m6_0_1 m6_0_2 m6_1_0 m6_1_1 m6_1_2 m6_2_0 m6_2_1 m6_2_2 m6_2_3 m6_3_0 m6_3_1 m6_3_2 m6_3_3 m6_4_0 m6_4_1 m6_4_2 m6_4_3
            clear hc7
            have y7_0_0 : w7.frozen? ⟨w4.heap.size, 0, none⟩ = false := by go_simp
            have y7_0_1 : w7.frozen? ⟨w4.heap.size, 1, none⟩ = false := by go_simp
            have y7_0_2 : w7.frozen? ⟨w4.heap.size, 2, none⟩ = false := by go_simp
            have y7_0_3 : w7.frozen? ⟨w4.heap.size, 3, none⟩ = false := by go_simp
            have y7_1_0 : w7.frozen? ⟨w6.heap.size, 0, none⟩ = false := by go_simp
            have y7_1_1 : w7.frozen? ⟨w6.heap.size, 1, none⟩ = false := by go_simp
            have y7_1_2 : w7.frozen? ⟨w6.heap.size, 2, none⟩ = false := by go_simp
            have y7_1_3 : w7.frozen? ⟨w6.heap.size, 3, none⟩ = false := by go_simp
            clear z6 hB6 y6_0_0 y6_0_1 y6_0_2 y6_0_3 hf7
            go_wp2_with fail
            refine (kSeal.out _).mono ?_; rintro e w8 ⟨rfl, hb⟩
            obtain ⟨hc8, hf8⟩ := bcell hb
            have z8 := hb.size
            try simp only [World.size_alloc, World.size_setCell, World.size_drew] at z8
            have s8_0 : w.heap.size < w8.heap.size := by omega
            have s8_1 : w.heap.size + 1 < w8.heap.size := by omega
            have s8_2 : w.heap.size + 1 + 1 < w8.heap.size := by omega
            have s8_3 : w.heap.size + 1 + 1 + 1 < w8.heap.size := by omega
            have s8_4 : w4.heap.size < w8.heap.size := by omega
            have s8_5 : w6.heap.size < w8.heap.size := by omega
            have hB8 : Below w.heap.size w w8 := below_seq (by repeat (first | with_reducible exact hB7 | with_reducible exact Below.refl _ _ | with_reducible refine below_set ?_ (by first | omega | (dsimp only; omega)) _ | with_reducible refine balloc ?_ _ | with_reducible refine Below.drew ?_ | with_reducible refine below_drewN ?_ _ | exact hB7 | exact Below.refl _ _ | refine balloc ?_ _ | refine Below.drew ?_ | refine below_drewN ?_ _ | refine below_set ?_ (by first | omega | (dsimp only; omega)) _)) hb
            clear hb
            have m8_0_0 : w8.cell? ⟨w.heap.size, 0, none⟩ = some (.int .i64 T.x) := by go_simp
            have m8_0_1 : w8.cell? ⟨w.heap.size, 1, none⟩ = some (.int .i64 T.y) := by go_simp
            have m8_0_2 : w8.cell? ⟨w.heap.size, 2, none⟩ = some (.bool T.far) := by go_simp
            have m8_1_0 : w8.cell? ⟨w.heap.size + 1, 0, none⟩ = some (.int .i64 key.x) := by go_simp
            have m8_1_1 : w8.cell? ⟨w.heap.size + 1, 1, none⟩ = some (.int .i64 key.y) := by go_simp
            have m8_1_2 : w8.cell? ⟨w.heap.size + 1, 2, none⟩ = some (.bool key.far) := by go_simp
            have m8_2_0 : w8.cell? ⟨w.heap.size + 1 + 1, 0, none⟩ = some (.int .i64 P.x) := by go_simp
            have m8_2_1 : w8.cell? ⟨w.heap.size + 1 + 1, 1, none⟩ = some (.int .i64 P.y) := by go_simp
            have m8_2_2 : w8.cell? ⟨w.heap.size + 1 + 1, 2, none⟩ = some (.bool P.far) := by go_simp
            have m8_2_3 : w8.cell? ⟨w.heap.size + 1 + 1, 3, none⟩ = some (.int .i64 PS) := by go_simp
            have m8_3_0 : w8.cell? ⟨w.heap.size + 1 + 1 + 1, 0, none⟩ = some (.int .i64 Q.x) := by go_simp
            have m8_3_1 : w8.cell? ⟨w.heap.size + 1 + 1 + 1, 1, none⟩ = some (.int .i64 Q.y) := by go_simp
            have m8_3_2 : w8.cell? ⟨w.heap.size + 1 + 1 + 1, 2, none⟩ = some (.bool Q.far) := by go_simp
            have m8_3_3 : w8.cell? ⟨w.heap.size + 1 + 1 + 1, 3, none⟩ = some (.int .i64 QS) := by go_simp
            have m8_4_0 : w8.cell? ⟨w4.heap.size, 0, none⟩ = some (.int .i64 Z.x) := by go_simp
            have m8_4_1 : w8.cell? ⟨w4.heap.size, 1, none⟩ = some (.int .i64 Z.y) := by go_simp
            have m8_4_2 : w8.cell? ⟨w4.heap.size, 2, none⟩ = some (.bool Z.far) := by go_simp
            have m8_4_3 : w8.cell? ⟨w4.heap.size, 3, none⟩ = some (.int .i64 Y) := by go_simp
            have m8_5_0 : w8.cell? ⟨w6.heap.size, 0, none⟩ = some (.int .i64 Z.x) := by go_simp
            have m8_5_1 : w8.cell? ⟨w6.heap.size, 1, none⟩ = some (.int .i64 Z.y) := by go_simp
            have m8_5_2 : w8.cell? ⟨w6.heap.size, 2, none⟩ = some (.bool Z.far) := by go_simp
            have m8_5_3 : w8.cell? ⟨w6.heap.size, 3, none⟩ = some (.int .i64 Y) := by go_simp
            clear m7_0_0 m7_0_1 m7_0_2 m7_1_0 m7_1_1 m7_1_2 m7_2_0 m7_2_1 m7_2_2 m7_2_3 m7_3_0 m7_3_1 m7_3_2 m7_3_3 m7_4_0 m7_4_1 m7_4_2 m7_4_3 m7_5_0 m7_5_1 m7_5_2 m7_5_3
            clear hc8
            have y8_0_0 : w8.frozen? ⟨w4.heap.size, 0, none⟩ = false := by go_simp
            have y8_0_1 : w8.frozen? ⟨w4.heap.size, 1, none⟩ = false := by go_simp
            have y8_0_2 : w8.frozen? ⟨w4.heap.size, 2, none⟩ = false := by go_simp
            have y8_0_3 : w8.frozen? ⟨w4.heap.size, 3, none⟩ = false := by go_simp
            have y8_1_0 : w8.frozen? ⟨w6.heap.size, 0, none⟩ = false := by go_simp
            have y8_1_1 : w8.frozen? ⟨w6.heap.size, 1, none⟩ = false := by go_simp
            have y8_1_2 : w8.frozen? ⟨w6.heap.size, 2, none⟩ = false := by go_simp
            have y8_1_3 : w8.frozen? ⟨w6.heap.size, 3, none⟩ = false := by go_simp
            clear z7 hB7 s7_0 s7_1 s7_2 s7_3 s7_4 s7_5 y7_0_0 y7_0_1 y7_0_2 y7_0_3 y7_1_0 y7_1_1 y7_1_2 y7_1_3 hf8
            go_upto_if 91 with fail
            go_cut [17] from 91 to 93 (fun s17 wx => s17 = .int .i64 E4 ∧ Below w.heap.size w wx ∧ w.heap.size < wx.heap.size ∧ w.heap.size + 1 < wx.heap.size ∧ w.heap.size + 1 + 1 < wx.heap.size ∧ w.heap.size + 1 + 1 + 1 < wx.heap.size ∧ w4.heap.size < wx.heap.size ∧ w6.heap.size < wx.heap.size ∧ wx.cell? ⟨w.heap.size, 0, none⟩ = some (.int .i64 T.x) ∧ wx.cell? ⟨w.heap.size, 1, none⟩ = some (.int .i64 T.y) ∧ wx.cell? ⟨w.heap.size, 2, none⟩ = some (.bool T.far) ∧ wx.cell? ⟨w.heap.size + 1, 0, none⟩ = some (.int .i64 key.x) ∧ wx.cell? ⟨w.heap.size + 1, 1, none⟩ = some (.int .i64 key.y) ∧ wx.cell? ⟨w.heap.size + 1, 2, none⟩ = some (.bool key.far) ∧ wx.cell? ⟨w.heap.size + 1 + 1, 0, none⟩ = some (.int .i64 P.x) ∧ wx.cell? ⟨w.heap.size + 1 + 1, 1, none⟩ = some (.int .i64 P.y) ∧ wx.cell? ⟨w.heap.size + 1 + 1, 2, none⟩ = some (.bool P.far) ∧ wx.cell? ⟨w.heap.size + 1 + 1, 3, none⟩ = some (.int .i64 PS) ∧ wx.cell? ⟨w.heap.size + 1 + 1 + 1, 0, none⟩ = some (.int .i64 Q.x) ∧ wx.cell? ⟨w.heap.size + 1 + 1 + 1, 1, none⟩ = some (.int .i64 Q.y) ∧ wx.cell? ⟨w.heap.size + 1 + 1 + 1, 2, none⟩ = some (.bool Q.far) ∧ wx.cell? ⟨w.heap.size + 1 + 1 + 1, 3, none⟩ = some (.int .i64 QS) ∧ wx.cell? ⟨w4.heap.size, 0, none⟩ = some (.int .i64 Z.x) ∧ wx.cell? ⟨w4.heap.size, 1, none⟩ = some (.int .i64 Z.y) ∧ wx.cell? ⟨w4.heap.size, 2, none⟩ = some (.bool Z.far) ∧ wx.cell? ⟨w4.heap.size, 3, none⟩ = some (.int .i64 Y) ∧ wx.cell? ⟨w6.heap.size, 0, none⟩ = some (.int .i64 Z.x) ∧ wx.cell? ⟨w6.heap.size, 1, none⟩ = some (.int .i64 Z.y) ∧ wx.cell? ⟨w6.heap.size, 2, none⟩ = some (.bool Z.far) ∧ wx.cell? ⟨w6.heap.size, 3, none⟩ = some (.int .i64 Y) ∧ wx.frozen? ⟨w4.heap.size, 0, none⟩ = false ∧ wx.frozen? ⟨w4.heap.size, 1, none⟩ = false ∧ wx.frozen? ⟨w4.heap.size, 2, none⟩ = false ∧ wx.frozen? ⟨w4.heap.size, 3, none⟩ = false ∧ wx.frozen? ⟨w6.heap.size, 0, none⟩ = false ∧ wx.frozen? ⟨w6.heap.size, 1, none⟩ = false ∧ wx.frozen? ⟨w6.heap.size, 2, none⟩ = false ∧ wx.frozen? ⟨w6.heap.size, 3, none⟩ = false)
            case first =>
              rcases h5.out with ⟨e1, e2⟩ | ⟨e1, e2⟩
              · subst e1
                replace e2 := Lib.hid e2
                clear h5
                go_wp2_with fail
                refine (refSpot_e T E4 _ e2).mono ?_; rintro e w9 ⟨rfl, hb⟩
                obtain ⟨hc9, hf9⟩ := bcell hb
                have z9 := hb.size
                try simp only [World.size_alloc, World.size_setCell, World.size_drew] at z9
                have s9_0 : w.heap.size < w9.heap.size := by omega
                have s9_1 : w.heap.size + 1 < w9.heap.size := by omega
                have s9_2 : w.heap.size + 1 + 1 < w9.heap.size := by omega
                have s9_3 : w.heap.size + 1 + 1 + 1 < w9.heap.size := by omega
                have s9_4 : w4.heap.size < w9.heap.size := by omega
                have s9_5 : w6.heap.size < w9.heap.size := by omega
                have hB9 : Below w.heap.size w w9 := below_seq (by repeat (first | with_reducible exact hB8 | with_reducible exact Below.refl _ _ | with_reducible refine below_set ?_ (by first | omega | (dsimp only; omega)) _ | with_reducible refine balloc ?_ _ | with_reducible refine Below.drew ?_ | with_reducible refine below_drewN ?_ _ | exact hB8 | exact Below.refl _ _ | refine balloc ?_ _ | refine Below.drew ?_ | refine below_drewN ?_ _ | refine below_set ?_ (by first | omega | (dsimp only; omega)) _)) hb
                clear hb
                have m9_0_0 : w9.cell? ⟨w.heap.size, 0, none⟩ = some (.int .i64 T.x) := by go_simp
                have m9_0_1 : w9.cell? ⟨w.heap.size, 1, none⟩ = some (.int .i64 T.y) := by go_simp
                have m9_0_2 : w9.cell? ⟨w.heap.size, 2, none⟩ = some (.bool T.far) := by go_simp
                have m9_1_0 : w9.cell? ⟨w.heap.size + 1, 0, none⟩ = some (.int .i64 key.x) := by go_simp
                have m9_1_1 : w9.cell? ⟨w.heap.size + 1, 1, none⟩ = some (.int .i64 key.y) := by go_simp
                have m9_1_2 : w9.cell? ⟨w.heap.size + 1, 2, none⟩ = some (.bool key.far) := by go_simp
                have m9_2_0 : w9.cell? ⟨w.heap.size + 1 + 1, 0, none⟩ = some (.int .i64 P.x) := by go_simp
                have m9_2_1 : w9.cell? ⟨w.heap.size + 1 + 1, 1, none⟩ = some (.int .i64 P.y) := by go_simp
                have m9_2_2 : w9.cell? ⟨w.heap.size + 1 + 1, 2, none⟩ = some (.bool P.far) := by go_simp
                have m9_2_3 : w9.cell? ⟨w.heap.size + 1 + 1, 3, none⟩ = some (.int .i64 PS) := by go_simp
                have m9_3_0 : w9.cell? ⟨w.heap.size + 1 + 1 + 1, 0, none⟩ = some (.int .i64 Q.x) := by go_simp
                have m9_3_1 : w9.cell? ⟨w.heap.size + 1 + 1 + 1, 1, none⟩ = some (.int .i64 Q.y) := by go_simp
                have m9_3_2 : w9.cell? ⟨w.heap.size + 1 + 1 + 1, 2, none⟩ = some (.bool Q.far) := by go_simp
                have m9_3_3 : w9.cell? ⟨w.heap.size + 1 + 1 + 1, 3, none⟩ = some (.int .i64 QS) := by go_simp
                have m9_4_0 : w9.cell? ⟨w4.heap.size, 0, none⟩ = some (.int .i64 Z.x) := by go_simp
                have m9_4_1 : w9.cell? ⟨w4.heap.size, 1, none⟩ = some (.int .i64 Z.y) := by go_simp
                have m9_4_2 : w9.cell? ⟨w4.heap.size, 2, none⟩ = some (.bool Z.far) := by go_simp
                have m9_4_3 : w9.cell? ⟨w4.heap.size, 3, none⟩ = some (.int .i64 Y) := by go_simp
                have m9_5_0 : w9.cell? ⟨w6.heap.size, 0, none⟩ = some (.int .i64 Z.x) := by go_simp
                have m9_5_1 : w9.cell? ⟨w6.heap.size, 1, none⟩ = some (.int .i64 Z.y) := by go_simp
                have m9_5_2 : w9.cell? ⟨w6.heap.size, 2, none⟩ = some (.bool Z.far) := by go_simp
                have m9_5_3 : w9.cell? ⟨w6.heap.size, 3, none⟩ = some (.int .i64 Y) := by go_simp
                clear m8_0_0 m8_0_1 m8_0_2 m8_1_0 m8_1_1 m8_1_2 m8_2_0 m8_2_1 m8_2_2 m8_2_3 m8_3_0 m8_3_1 m8_3_2 m8_3_3 m8_4_0 m8_4_1 m8_4_2 m8_4_3 m8_5_0 m8_5_1 m8_5_2 m8_5_3
                clear hc9
                have y9_0_0 : w9.frozen? ⟨w4.heap.size, 0, none⟩ = false := by go_simp
                have y9_0_1 : w9.frozen? ⟨w4.heap.size, 1, none⟩ = false := by go_simp
                have y9_0_2 : w9.frozen? ⟨w4.heap.size, 2, none⟩ = false := by go_simp
                have y9_0_3 : w9.frozen? ⟨w4.heap.size, 3, none⟩ = false := by go_simp
                have y9_1_0 : w9.frozen? ⟨w6.heap.size, 0, none⟩ = false := by go_simp
                have y9_1_1 : w9.frozen? ⟨w6.heap.size, 1, none⟩ = false := by go_simp
                have y9_1_2 : w9.frozen? ⟨w6.heap.size, 2, none⟩ = false := by go_simp
                have y9_1_3 : w9.frozen? ⟨w6.heap.size, 3, none⟩ = false := by go_simp
                clear z8 hB8 s8_0 s8_1 s8_2 s8_3 s8_4 s8_5 y8_0_0 y8_0_1 y8_0_2 y8_0_3 y8_1_0 y8_1_1 y8_1_2 y8_1_3 hf9
                go_wp2_with fail
                go_meet
                exact ⟨rfl, (by repeat (first | with_reducible exact hB9 | with_reducible exact Below.refl _ _ | with_reducible refine below_set ?_ (by first | omega | (dsimp only; omega)) _ | with_reducible refine balloc ?_ _ | with_reducible refine Below.drew ?_ | with_reducible refine below_drewN ?_ _ | exact hB9 | exact Below.refl _ _ | refine balloc ?_ _ | refine Below.drew ?_ | refine below_drewN ?_ _ | refine below_set ?_ (by first | omega | (dsimp only; omega)) _)), (by first | with_reducible assumption | omega | (simp only [World.heap_drewN, World.size_alloc, World.size_setCell, World.size_drew]; omega)), (by first | with_reducible assumption | omega | (simp only [World.heap_drewN, World.size_alloc, World.size_setCell, World.size_drew]; omega)), (by first | with_reducible assumption | omega | (simp only [World.heap_drewN, World.size_alloc, World.size_setCell, World.size_drew]; omega)), (by first | with_reducible assumption | omega | (simp only [World.heap_drewN, World.size_alloc, World.size_setCell, World.size_drew]; omega)), (by first | with_reducible assumption | omega | (simp only [World.heap_drewN, World.size_alloc, World.size_setCell, World.size_drew]; omega)), (by first | with_reducible assumption | omega | (simp only [World.heap_drewN, World.size_alloc, World.size_setCell, World.size_drew]; omega)), (by first | with_reducible assumption | go_simp), (by first | with_reducible assumption | go_simp), (by first | with_reducible assumption | go_simp), (by first | with_reducible assumption | go_simp), (by first | with_reducible assumption | go_simp), (by first | with_reducible assumption | go_simp), (by first | with_reducible assumption | go_simp), (by first | with_reducible assumption | go_simp), (by first | with_reducible assumption | go_simp), (by first | with_reducible assumption | go_simp), (by first | with_reducible assumption | go_simp), (by first | with_reducible assumption | go_simp), (by first | with_reducible assumption | go_simp), (by first | with_reducible assumption | go_simp), (by first | with_reducible assumption | go_simp), (by first | with_reducible assumption | go_simp), (by first | with_reducible assumption | go_simp), (by first | with_reducible assumption | go_simp), (by first | with_reducible assumption | go_simp), (by first | with_reducible assumption | go_simp), (by first | with_reducible assumption | go_simp), (by first | with_reducible assumption | go_simp), (by first | with_reducible assumption | go_simp), (by first | with_reducible assumption | go_simp), (by first | with_reducible assumption | go_simp), (by first | with_reducible assumption | go_simp), (by first | with_reducible assumption | go_simp), (by first | with_reducible assumption | go_simp), (by first | with_reducible assumption | go_simp), (by first | with_reducible assumption | go_simp)⟩
              · skip
                subst e2
                clear h5
                go_wp2_with fail
                go_meet
                exact ⟨rfl, (by repeat (first | with_reducible exact hB8 | with_reducible exact Below.refl _ _ | with_reducible refine below_set ?_ (by first | omega | (dsimp only; omega)) _ | with_reducible refine balloc ?_ _ | with_reducible refine Below.drew ?_ | with_reducible refine below_drewN ?_ _ | exact hB8 | exact Below.refl _ _ | refine balloc ?_ _ | refine Below.drew ?_ | refine below_drewN ?_ _ | refine below_set ?_ (by first | omega | (dsimp only; omega)) _)), (by first | with_reducible assumption | omega | (simp only [World.heap_drewN, World.size_alloc, World.size_setCell, World.size_drew]; omega)), (by first | with_reducible assumption | omega | (simp only [World.heap_drewN, World.size_alloc, World.size_setCell, World.size_drew]; omega)), (by first | with_reducible assumption | omega | (simp only [World.heap_drewN, World.size_alloc, World.size_setCell, World.size_drew]; omega)), (by first | with_reducible assumption | omega | (simp only [World.heap_drewN, World.size_alloc, World.size_setCell, World.size_drew]; omega)), (by first | with_reducible assumption | omega | (simp only [World.heap_drewN, World.size_alloc, World.size_setCell, World.size_drew]; omega)), (by first | with_reducible assumption | omega | (simp only [World.heap_drewN, World.size_alloc, World.size_setCell, World.size_drew]; omega)), (by first | with_reducible assumption | go_simp), (by first | with_reducible assumption | go_simp), (by first | with_reducible assumption | go_simp), (by first | with_reducible assumption | go_simp), (by first | with_reducible assumption | go_simp), (by first | with_reducible assumption | go_simp), (by first | with_reducible assumption | go_simp), (by first | with_reducible assumption | go_simp), (by first | with_reducible assumption | go_simp), (by first | with_reducible assumption | go_simp), (by first | with_reducible assumption | go_simp), (by first | with_reducible assumption | go_simp), (by first | with_reducible assumption | go_simp), (by first | with_reducible assumption | go_simp), (by first | with_reducible assumption | go_simp), (by first | with_reducible assumption | go_simp), (by first | with_reducible assumption | go_simp), (by first | with_reducible assumption | go_simp), (by first | with_reducible assumption | go_simp), (by first | with_reducible assumption | go_simp), (by first | with_reducible assumption | go_simp), (by first | with_reducible assumption | go_simp), (by first | with_reducible assumption | go_simp), (by first | with_reducible assumption | go_simp), (by first | with_reducible assumption | go_simp), (by first | with_reducible assumption | go_simp), (by first | with_reducible assumption | go_simp), (by first | with_reducible assumption | go_simp), (by first | with_reducible assumption | go_simp), (by first | with_reducible assumption | go_simp)⟩
            case rest =>
              obtain ⟨w9, hwq⟩ : ∃ x, x = wc := ⟨_, rfl⟩
              subst hwq
              obtain ⟨rfl, hB9, s9_0, s9_1, s9_2, s9_3, s9_4, s9_5, m9_0_0, m9_0_1, m9_0_2, m9_1_0, m9_1_1, m9_1_2, m9_2_0, m9_2_1, m9_2_2, m9_2_3, m9_3_0, m9_3_1, m9_3_2, m9_3_3, m9_4_0, m9_4_1, m9_4_2, m9_4_3, m9_5_0, m9_5_1, m9_5_2, m9_5_3, y9_0_0, y9_0_1, y9_0_2, y9_0_3, y9_1_0, y9_1_1, y9_1_2, y9_1_3⟩ := hcut
              clear m8_0_0 m8_0_1 m8_0_2 m8_1_0 m8_1_1 m8_1_2 m8_2_0 m8_2_1 m8_2_2 m8_2_3 m8_3_0 m8_3_1 m8_3_2 m8_3_3 m8_4_0 m8_4_1 m8_4_2 m8_4_3 m8_5_0 m8_5_1 m8_5_2 m8_5_3
              clear z8 hB8 s8_0 s8_1 s8_2 s8_3 s8_4 s8_5 y8_0_0 y8_0_1 y8_0_2 y8_0_3 y8_1_0 y8_1_1 y8_1_2 y8_1_3
              clear h5
              go_upto_region 19 with fail
              go_cut [26] from 94 to 102 (fun s26 wx => s26 = .bool RT ∧ Below w.heap.size w wx ∧ w.heap.size < wx.heap.size ∧ w.heap.size + 1 < wx.heap.size ∧ w.heap.size + 1 + 1 < wx.heap.size ∧ w.heap.size + 1 + 1 + 1 < wx.heap.size ∧ w4.heap.size < wx.heap.size ∧ w6.heap.size < wx.heap.size ∧ wx.cell? ⟨w.heap.size, 0, none⟩ = some (.int .i64 T.x) ∧ wx.cell? ⟨w.heap.size, 1, none⟩ = some (.int .i64 T.y) ∧ wx.cell? ⟨w.heap.size, 2, none⟩ = some (.bool T.far) ∧ wx.cell? ⟨w.heap.size + 1, 0, none⟩ = some (.int .i64 key.x) ∧ wx.cell? ⟨w.heap.size + 1, 1, none⟩ = some (.int .i64 key.y) ∧ wx.cell? ⟨w.heap.size + 1, 2, none⟩ = some (.bool key.far) ∧ wx.cell? ⟨w.heap.size + 1 + 1, 0, none⟩ = some (.int .i64 P.x) ∧ wx.cell? ⟨w.heap.size + 1 + 1, 1, none⟩ = some (.int .i64 P.y) ∧ wx.cell? ⟨w.heap.size + 1 + 1, 2, none⟩ = some (.bool P.far) ∧ wx.cell? ⟨w.heap.size + 1 + 1, 3, none⟩ = some (.int .i64 PS) ∧ wx.cell? ⟨w.heap.size + 1 + 1 + 1, 0, none⟩ = some (.int .i64 Q.x) ∧ wx.cell? ⟨w.heap.size + 1 + 1 + 1, 1, none⟩ = some (.int .i64 Q.y) ∧ wx.cell? ⟨w.heap.size + 1 + 1 + 1, 2, none⟩ = some (.bool Q.far) ∧ wx.cell? ⟨w.heap.size + 1 + 1 + 1, 3, none⟩ = some (.int .i64 QS) ∧ wx.cell? ⟨w4.heap.size, 0, none⟩ = some (.int .i64 Z.x) ∧ wx.cell? ⟨w4.heap.size, 1, none⟩ = some (.int .i64 Z.y) ∧ wx.cell? ⟨w4.heap.size, 2, none⟩ = some (.bool Z.far) ∧ wx.cell? ⟨w4.heap.size, 3, none⟩ = some (.int .i64 Y) ∧ wx.cell? ⟨w6.heap.size, 0, none⟩ = some (.int .i64 Z.x) ∧ wx.cell? ⟨w6.heap.size, 1, none⟩ = some (.int .i64 Z.y) ∧ wx.cell? ⟨w6.heap.size, 2, none⟩ = some (.bool Z.far) ∧ wx.cell? ⟨w6.heap.size, 3, none⟩ = some (.int .i64 Y) ∧ wx.frozen? ⟨w4.heap.size, 0, none⟩ = false ∧ wx.frozen? ⟨w4.heap.size, 1, none⟩ = false ∧ wx.frozen? ⟨w4.heap.size, 2, none⟩ = false ∧ wx.frozen? ⟨w4.heap.size, 3, none⟩ = false ∧ wx.frozen? ⟨w6.heap.size, 0, none⟩ = false ∧ wx.frozen? ⟨w6.heap.size, 1, none⟩ = false ∧ wx.frozen? ⟨w6.heap.size, 2, none⟩ = false ∧ wx.frozen? ⟨w6.heap.size, 3, none⟩ = false)
              case first =>
                rcases h6.out with ⟨e1, e2⟩ | ⟨e1, e2⟩
                · subst e1
                  replace e2 := Lib.hid e2
                  clear h6
                  go_wp2_with fail
                  refine (e2.out _).mono ?_; rintro e w10 ⟨rfl, hb⟩
                  obtain ⟨hc10, hf10⟩ := bcell hb
                  have z10 := hb.size
                  try simp only [World.size_alloc, World.size_setCell, World.size_drew] at z10
                  have s10_0 : w.heap.size < w10.heap.size := by omega
                  have s10_1 : w.heap.size + 1 < w10.heap.size := by omega
                  have s10_2 : w.heap.size + 1 + 1 < w10.heap.size := by omega
                  have s10_3 : w.heap.size + 1 + 1 + 1 < w10.heap.size := by omega
                  have s10_4 : w4.heap.size < w10.heap.size := by omega
                  have s10_5 : w6.heap.size < w10.heap.size := by omega
                  have hB10 : Below w.heap.size w w10 := below_seq (by repeat (first | with_reducible exact hB9 | with_reducible exact Below.refl _ _ | with_reducible refine below_set ?_ (by first | omega | (dsimp only; omega)) _ | with_reducible refine balloc ?_ _ | with_reducible refine Below.drew ?_ | with_reducible refine below_drewN ?_ _ | exact hB9 | exact Below.refl _ _ | refine balloc ?_ _ | refine Below.drew ?_ | refine below_drewN ?_ _ | refine below_set ?_ (by first | omega | (dsimp only; omega)) _)) hb
                  clear hb
                  have m10_0_0 : w10.cell? ⟨w.heap.size, 0, none⟩ = some (.int .i64 T.x) := by go_simp
                  have m10_0_1 : w10.cell? ⟨w.heap.size, 1, none⟩ = some (.int .i64 T.y) := by go_simp
                  have m10_0_2 : w10.cell? ⟨w.heap.size, 2, none⟩ = some (.bool T.far) := by go_simp
                  have m10_1_0 : w10.cell? ⟨w.heap.size + 1, 0, none⟩ = some (.int .i64 key.x) := by go_simp
                  have m10_1_1 : w10.cell? ⟨w.heap.size + 1, 1, none⟩ = some (.int .i64 key.y) := by go_simp
                  have m10_1_2 : w10.cell? ⟨w.heap.size + 1, 2, none⟩ = some (.bool key.far) := by go_simp
                  have m10_2_0 : w10.cell? ⟨w.heap.size + 1 + 1, 0, none⟩ = some (.int .i64 P.x) := by go_simp
                  have m10_2_1 : w10.cell? ⟨w.heap.size + 1 + 1, 1, none⟩ = some (.int .i64 P.y) := by go_simp
                  have m10_2_2 : w10.cell? ⟨w.heap.size + 1 + 1, 2, none⟩ = some (.bool P.far) := by go_simp
                  have m10_2_3 : w10.cell? ⟨w.heap.size + 1 + 1, 3, none⟩ = some (.int .i64 PS) := by go_simp
                  have m10_3_0 : w10.cell? ⟨w.heap.size + 1 + 1 + 1, 0, none⟩ = some (.int .i64 Q.x) := by go_simp
                  have m10_3_1 : w10.cell? ⟨w.heap.size + 1 + 1 + 1, 1, none⟩ = some (.int .i64 Q.y) := by go_simp
                  have m10_3_2 : w10.cell? ⟨w.heap.size + 1 + 1 + 1, 2, none⟩ = some (.bool Q.far) := by go_simp
                  have m10_3_3 : w10.cell? ⟨w.heap.size + 1 + 1 + 1, 3, none⟩ = some (.int .i64 QS) := by go_simp
                  have m10_4_0 : w10.cell? ⟨w4.heap.size, 0, none⟩ = some (.int .i64 Z.x) := by go_simp
                  have m10_4_1 : w10.cell? ⟨w4.heap.size, 1, none⟩ = some (.int .i64 Z.y) := by go_simp
                  have m10_4_2 : w10.cell? ⟨w4.heap.size, 2, none⟩ = some (.bool Z.far) := by go_simp
                  have m10_4_3 : w10.cell? ⟨w4.heap.size, 3, none⟩ = some (.int .i64 Y) := by go_simp
                  have m10_5_0 : w10.cell? ⟨w6.heap.size, 0, none⟩ = some (.int .i64 Z.x) := by go_simp
                  have m10_5_1 : w10.cell? ⟨w6.heap.size, 1, none⟩ = some (.int .i64 Z.y) := by go_simp
                  have m10_5_2 : w10.cell? ⟨w6.heap.size, 2, none⟩ = some (.bool Z.far) := by go_simp
                  have m10_5_3 : w10.cell? ⟨w6.heap.size, 3, none⟩ = some (.int .i64 Y) := by go_simp
                  clear m9_0_0 m9_0_1 m9_0_2 m9_1_0 m9_1_1 m9_1_2 m9_2_0 m9_2_1 m9_2_2 m9_2_3 m9_3_0 m9_3_1 m9_3_2 m9_3_3 m9_4_0 m9_4_1 m9_4_2 m9_4_3 m9_5_0 m9_5_1 m9_5_2 m9_5_3
                  clear hc10
                  have y10_0_0 : w10.frozen? ⟨w4.heap.size, 0, none⟩ = false := by go_simp
                  have y10_0_1 : w10.frozen? ⟨w4.heap.size, 1, none⟩ = false := by go_simp
                  have y10_0_2 : w10.frozen? ⟨w4.heap.size, 2, none⟩ = false := by go_simp
                  have y10_0_3 : w10.frozen? ⟨w4.heap.size, 3, none⟩ = false := by go_simp
                  have y10_1_0 : w10.frozen? ⟨w6.heap.size, 0, none⟩ = false := by go_simp
                  have y10_1_1 : w10.frozen? ⟨w6.heap.size, 1, none⟩ = false := by go_simp
                  have y10_1_2 : w10.frozen? ⟨w6.heap.size, 2, none⟩ = false := by go_simp
                  have y10_1_3 : w10.frozen? ⟨w6.heap.size, 3, none⟩ = false := by go_simp
                  clear hB9 s9_0 s9_1 s9_2 s9_3 s9_4 s9_5 y9_0_0 y9_0_1 y9_0_2 y9_0_3 y9_1_0 y9_1_1 y9_1_2 y9_1_3 hf10
                  go_wp2_with fail
                  go_meet
                  exact ⟨rfl, (by repeat (first | with_reducible exact hB10 | with_reducible exact Below.refl _ _ | with_reducible refine below_set ?_ (by first | omega | (dsimp only; omega)) _ | with_reducible refine balloc ?_ _ | with_reducible refine Below.drew ?_ | with_reducible refine below_drewN ?_ _ | exact hB10 | exact Below.refl _ _ | refine balloc ?_ _ | refine Below.drew ?_ | refine below_drewN ?_ _ | refine below_set ?_ (by first | omega | (dsimp only; omega)) _)), (by first | with_reducible assumption | omega | (simp only [World.heap_drewN, World.size_alloc, World.size_setCell, World.size_drew]; omega)), (by first | with_reducible assumption | omega | (simp only [World.heap_drewN, World.size_alloc, World.size_setCell, World.size_drew]; omega)), (by first | with_reducible assumption | omega | (simp only [World.heap_drewN, World.size_alloc, World.size_setCell, World.size_drew]; omega)), (by first | with_reducible assumption | omega | (simp only [World.heap_drewN, World.size_alloc, World.size_setCell, World.size_drew]; omega)), (by first | with_reducible assumption | omega | (simp only [World.heap_drewN, World.size_alloc, World.size_setCell, World.size_drew]; omega)), (by first | with_reducible assumption | omega | (simp only [World.heap_drewN, World.size_alloc, World.size_setCell, World.size_drew]; omega)), (by first | with_reducible assumption | go_simp), (by first | with_reducible assumption | go_simp), (by first | with_reducible assumption | go_simp), (by first | with_reducible assumption | go_simp), (by first | with_reducible assumption | go_simp), (by first | with_reducible assumption | go_simp), (by first | with_reducible assumption | go_simp), (by first | with_reducible assumption | go_simp), (by first | with_reducible assumption | go_simp), (by first | with_reducible assumption | go_simp), (by first | with_reducible assumption | go_simp), (by first | with_reducible assumption | go_simp), (by first | with_reducible assumption | go_simp), (by first | with_reducible assumption | go_simp), (by first | with_reducible assumption | go_simp), (by first | with_reducible assumption | go_simp), (by first | with_reducible assumption | go_simp), (by first | with_reducible assumption | go_simp), (by first | with_reducible assumption | go_simp), (by first | with_reducible assumption | go_simp), (by first | with_reducible assumption | go_simp), (by first | with_reducible assumption | go_simp), (by first | with_reducible assumption | go_simp), (by first | with_reducible assumption | go_simp), (by first | with_reducible assumption | go_simp), (by first | with_reducible assumption | go_simp), (by first | with_reducible assumption | go_simp), (by first | with_reducible assumption | go_simp), (by first | with_reducible assumption | go_simp), (by first | with_reducible assumption | go_simp)⟩
                · skip
                  subst e2
                  clear h6
                  go_wp2_with fail
                  go_meet
                  exact ⟨rfl, (by repeat (first | with_reducible exact hB9 | with_reducible exact Below.refl _ _ | with_reducible refine below_set ?_ (by first | omega | (dsimp only; omega)) _ | with_reducible refine balloc ?_ _ | with_reducible refine Below.drew ?_ | with_reducible refine below_drewN ?_ _ | exact hB9 | exact Below.refl _ _ | refine balloc ?_ _ | refine Below.drew ?_ | refine below_drewN ?_ _ | refine below_set ?_ (by first | omega | (dsimp only; omega)) _)), (by first | with_reducible assumption | omega | (simp only [World.heap_drewN, World.size_alloc, World.size_setCell, World.size_drew]; omega)), (by first | with_reducible assumption | omega | (simp only [World.heap_drewN, World.size_alloc, World.size_setCell, World.size_drew]; omega)), (by first | with_reducible assumption | omega | (simp only [World.heap_drewN, World.size_alloc, World.size_setCell, World.size_drew]; omega)), (by first | with_reducible assumption | omega | (simp only [World.heap_drewN, World.size_alloc, World.size_setCell, World.size_drew]; omega)), (by first | with_reducible assumption | omega | (simp only [World.heap_drewN, World.size_alloc, World.size_setCell, World.size_drew]; omega)), (by first | with_reducible assumption | omega | (simp only [World.heap_drewN, World.size_alloc, World.size_setCell, World.size_drew]; omega)), (by first | with_reducible assumption | go_simp), (by first | with_reducible assumption | go_simp), (by first | with_reducible assumption | go_simp), (by first | with_reducible assumption | go_simp), (by first | with_reducible assumption | go_simp), (by first | with_reducible assumption | go_simp), (by first | with_reducible assumption | go_simp), (by first | with_reducible assumption | go_simp), (by first | with_reducible assumption | go_simp), (by first | with_reducible assumption | go_simp), (by first | with_reducible assumption | go_simp), (by first | with_reducible assumption | go_simp), (by first | with_reducible assumption | go_simp), (by first | with_reducible assumption | go_simp), (by first | with_reducible assumption | go_simp), (by first | with_reducible assumption | go_simp), (by first | with_reducible assumption | go_simp), (by first | with_reducible assumption | go_simp), (by first | with_reducible assumption | go_simp), (by first | with_reducible assumption | go_simp), (by first | with_reducible assumption | go_simp), (by first | with_reducible assumption | go_simp), (by first | with_reducible assumption | go_simp), (by first | with_reducible assumption | go_simp), (by first | with_reducible assumption | go_simp), (by first | with_reducible assumption | go_simp), (by first | with_reducible assumption | go_simp), (by first | with_reducible assumption | go_simp), (by first | with_reducible assumption | go_simp), (by first | with_reducible assumption | go_simp)⟩
              case rest =>
                obtain ⟨w10, hwq⟩ : ∃ x, x = wc := ⟨_, rfl⟩
                subst hwq
                obtain ⟨rfl, hB10, s10_0, s10_1, s10_2, s10_3, s10_4, s10_5, m10_0_0, m10_0_1, m10_0_2, m10_1_0, m10_1_1, m10_1_2, m10_2_0, m10_2_1, m10_2_2, m10_2_3, m10_3_0, m10_3_1, m10_3_2, m10_3_3, m10_4_0, m10_4_1, m10_4_2, m10_4_3, m10_5_0, m10_5_1, m10_5_2, m10_5_3, y10_0_0, y10_0_1, y10_0_2, y10_0_3, y10_1_0, y10_1_1, y10_1_2, y10_1_3⟩ := hcut
                clear m9_0_0 m9_0_1 m9_0_2 m9_1_0 m9_1_1 m9_1_2 m9_2_0 m9_2_1 m9_2_2 m9_2_3 m9_3_0 m9_3_1 m9_3_2 m9_3_3 m9_4_0 m9_4_1 m9_4_2 m9_4_3 m9_5_0 m9_5_1 m9_5_2 m9_5_3
                clear hB9 s9_0 s9_1 s9_2 s9_3 s9_4 s9_5 y9_0_0 y9_0_1 y9_0_2 y9_0_3 y9_1_0 y9_1_1 y9_1_2 y9_1_3
                clear h6
                go_wp2_with fail
                refine (kChk.out _ (hF.below (by repeat (first | with_reducible exact hB10 | with_reducible exact Below.refl _ _ | with_reducible refine below_set ?_ (by first | omega | (dsimp only; omega)) _ | with_reducible refine balloc ?_ _ | with_reducible refine Below.drew ?_ | with_reducible refine below_drewN ?_ _ | exact hB10 | exact Below.refl _ _ | refine balloc ?_ _ | refine Below.drew ?_ | refine below_drewN ?_ _ | refine below_set ?_ (by first | omega | (dsimp only; omega)) _)))).mono ?_; rintro e w11 ⟨rfl, hb⟩
                obtain ⟨hc11, hf11⟩ := bcell hb
                have z11 := hb.size
                try simp only [World.size_alloc, World.size_setCell, World.size_drew] at z11
                have s11_0 : w.heap.size < w11.heap.size := by omega
                have s11_1 : w.heap.size + 1 < w11.heap.size := by omega
                have s11_2 : w.heap.size + 1 + 1 < w11.heap.size := by omega
                have s11_3 : w.heap.size + 1 + 1 + 1 < w11.heap.size := by omega
                have s11_4 : w4.heap.size < w11.heap.size := by omega
                have s11_5 : w6.heap.size < w11.heap.size := by omega
                have hB11 : Below w.heap.size w w11 := below_seq (by repeat (first | with_reducible exact hB10 | with_reducible exact Below.refl _ _ | with_reducible refine below_set ?_ (by first | omega | (dsimp only; omega)) _ | with_reducible refine balloc ?_ _ | with_reducible refine Below.drew ?_ | with_reducible refine below_drewN ?_ _ | exact hB10 | exact Below.refl _ _ | refine balloc ?_ _ | refine Below.drew ?_ | refine below_drewN ?_ _ | refine below_set ?_ (by first | omega | (dsimp only; omega)) _)) hb
                clear hb
                have m11_0_0 : w11.cell? ⟨w.heap.size, 0, none⟩ = some (.int .i64 T.x) := by go_simp
                have m11_0_1 : w11.cell? ⟨w.heap.size, 1, none⟩ = some (.int .i64 T.y) := by go_simp
                have m11_0_2 : w11.cell? ⟨w.heap.size, 2, none⟩ = some (.bool T.far) := by go_simp
                have m11_1_0 : w11.cell? ⟨w.heap.size + 1, 0, none⟩ = some (.int .i64 key.x) := by go_simp
                have m11_1_1 : w11.cell? ⟨w.heap.size + 1, 1, none⟩ = some (.int .i64 key.y) := by go_simp
                have m11_1_2 : w11.cell? ⟨w.heap.size + 1, 2, none⟩ = some (.bool key.far) := by go_simp
                have m11_2_0 : w11.cell? ⟨w.heap.size + 1 + 1, 0, none⟩ = some (.int .i64 P.x) := by go_simp
                have m11_2_1 : w11.cell? ⟨w.heap.size + 1 + 1, 1, none⟩ = some (.int .i64 P.y) := by go_simp
                have m11_2_2 : w11.cell? ⟨w.heap.size + 1 + 1, 2, none⟩ = some (.bool P.far) := by go_simp
                have m11_2_3 : w11.cell? ⟨w.heap.size + 1 + 1, 3, none⟩ = some (.int .i64 PS) := by go_simp
                have m11_3_0 : w11.cell? ⟨w.heap.size + 1 + 1 + 1, 0, none⟩ = some (.int .i64 Q.x) := by go_simp
                have m11_3_1 : w11.cell? ⟨w.heap.size + 1 + 1 + 1, 1, none⟩ = some (.int .i64 Q.y) := by go_simp
                have m11_3_2 : w11.cell? ⟨w.heap.size + 1 + 1 + 1, 2, none⟩ = some (.bool Q.far) := by go_simp
                have m11_3_3 : w11.cell? ⟨w.heap.size + 1 + 1 + 1, 3, none⟩ = some (.int .i64 QS) := by go_simp
                have m11_4_0 : w11.cell? ⟨w4.heap.size, 0, none⟩ = some (.int .i64 Z.x) := by go_simp
                have m11_4_1 : w11.cell? ⟨w4.heap.size, 1, none⟩ = some (.int .i64 Z.y) := by go_simp
                have m11_4_2 : w11.cell? ⟨w4.heap.size, 2, none⟩ = some (.bool Z.far) := by go_simp
                have m11_4_3 : w11.cell? ⟨w4.heap.size, 3, none⟩ = some (.int .i64 Y) := by go_simp
                have m11_5_0 : w11.cell? ⟨w6.heap.size, 0, none⟩ = some (.int .i64 Z.x) := by go_simp
                have m11_5_1 : w11.cell? ⟨w6.heap.size, 1, none⟩ = some (.int .i64 Z.y) := by go_simp
                have m11_5_2 : w11.cell? ⟨w6.heap.size, 2, none⟩ = some (.bool Z.far) := by go_simp
                have m11_5_3 : w11.cell? ⟨w6.heap.size, 3, none⟩ = some (.int .i64 Y) := by go_simp
                clear m10_0_0 m10_0_1 m10_0_2 m10_1_0 m10_1_1 m10_1_2 m10_2_0 m10_2_1 m10_2_2 m10_2_3 m10_3_0 m10_3_1 m10_3_2 m10_3_3 m10_4_0 m10_4_1 m10_4_2 m10_4_3 m10_5_0 m10_5_1 m10_5_2 m10_5_3
                clear hc11
                have y11_0_0 : w11.frozen? ⟨w4.heap.size, 0, none⟩ = false := by go_simp
                have y11_0_1 : w11.frozen? ⟨w4.heap.size, 1, none⟩ = false := by go_simp
                have y11_0_2 : w11.frozen? ⟨w4.heap.size, 2, none⟩ = false := by go_simp
                have y11_0_3 : w11.frozen? ⟨w4.heap.size, 3, none⟩ = false := by go_simp
                have y11_1_0 : w11.frozen? ⟨w6.heap.size, 0, none⟩ = false := by go_simp
                have y11_1_1 : w11.frozen? ⟨w6.heap.size, 1, none⟩ = false := by go_simp
                have y11_1_2 : w11.frozen? ⟨w6.heap.size, 2, none⟩ = false := by go_simp
                have y11_1_3 : w11.frozen? ⟨w6.heap.size, 3, none⟩ = false := by go_simp
                clear hB10 s10_0 s10_1 s10_2 s10_3 s10_4 s10_5 y10_0_0 y10_0_1 y10_0_2 y10_0_3 y10_1_0 y10_1_1 y10_1_2 y10_1_3 hf11
                go_wp2_with fail
                refine (error_same (errV E4) E4 _ (hE.below (by repeat (first | with_reducible exact hB11 | with_reducible exact Below.refl _ _ | with_reducible refine below_set ?_ (by first | omega | (dsimp only; omega)) _ | with_reducible refine balloc ?_ _ | with_reducible refine Below.drew ?_ | with_reducible refine below_drewN ?_ _ | exact hB11 | exact Below.refl _ _ | refine balloc ?_ _ | refine Below.drew ?_ | refine below_drewN ?_ _ | refine below_set ?_ (by first | omega | (dsimp only; omega)) _))) (Lib.hid rfl)).mono ?_; rintro e w12 ⟨rfl, hb⟩
                obtain ⟨hc12, hf12⟩ := bcell hb
                have z12 := hb.size
                try simp only [World.size_alloc, World.size_setCell, World.size_drew] at z12
                have s12_0 : w.heap.size < w12.heap.size := by omega
                have s12_1 : w.heap.size + 1 < w12.heap.size := by omega
                have s12_2 : w.heap.size + 1 + 1 < w12.heap.size := by omega
                have s12_3 : w.heap.size + 1 + 1 + 1 < w12.heap.size := by omega
                have s12_4 : w4.heap.size < w12.heap.size := by omega
                have s12_5 : w6.heap.size < w12.heap.size := by omega
                have hB12 : Below w.heap.size w w12 := below_seq (by repeat (first | with_reducible exact hB11 | with_reducible exact Below.refl _ _ | with_reducible refine below_set ?_ (by first | omega | (dsimp only; omega)) _ | with_reducible refine balloc ?_ _ | with_reducible refine Below.drew ?_ | with_reducible refine below_drewN ?_ _ | exact hB11 | exact Below.refl _ _ | refine balloc ?_ _ | refine Below.drew ?_ | refine below_drewN ?_ _ | refine below_set ?_ (by first | omega | (dsimp only; omega)) _)) hb
                clear hb
                have m12_0_0 : w12.cell? ⟨w.heap.size, 0, none⟩ = some (.int .i64 T.x) := by go_simp
                have m12_0_1 : w12.cell? ⟨w.heap.size, 1, none⟩ = some (.int .i64 T.y) := by go_simp
                have m12_0_2 : w12.cell? ⟨w.heap.size, 2, none⟩ = some (.bool T.far) := by go_simp
                have m12_1_0 : w12.cell? ⟨w.heap.size + 1, 0, none⟩ = some (.int .i64 key.x) := by go_simp
                have m12_1_1 : w12.cell? ⟨w.heap.size + 1, 1, none⟩ = some (.int .i64 key.y) := by go_simp
                have m12_1_2 : w12.cell? ⟨w.heap.size + 1, 2, none⟩ = some (.bool key.far) := by go_simp
                have m12_2_0 : w12.cell? ⟨w.heap.size + 1 + 1, 0, none⟩ = some (.int .i64 P.x) := by go_simp
                have m12_2_1 : w12.cell? ⟨w.heap.size + 1 + 1, 1, none⟩ = some (.int .i64 P.y) := by go_simp
                have m12_2_2 : w12.cell? ⟨w.heap.size + 1 + 1, 2, none⟩ = some (.bool P.far) := by go_simp
                have m12_2_3 : w12.cell? ⟨w.heap.size + 1 + 1, 3, none⟩ = some (.int .i64 PS) := by go_simp
                have m12_3_0 : w12.cell? ⟨w.heap.size + 1 + 1 + 1, 0, none⟩ = some (.int .i64 Q.x) := by go_simp
                have m12_3_1 : w12.cell? ⟨w.heap.size + 1 + 1 + 1, 1, none⟩ = some (.int .i64 Q.y) := by go_simp
                have m12_3_2 : w12.cell? ⟨w.heap.size + 1 + 1 + 1, 2, none⟩ = some (.bool Q.far) := by go_simp
                have m12_3_3 : w12.cell? ⟨w.heap.size + 1 + 1 + 1, 3, none⟩ = some (.int .i64 QS) := by go_simp
                have m12_4_0 : w12.cell? ⟨w4.heap.size, 0, none⟩ = some (.int .i64 Z.x) := by go_simp
                have m12_4_1 : w12.cell? ⟨w4.heap.size, 1, none⟩ = some (.int .i64 Z.y) := by go_simp
                have m12_4_2 : w12.cell? ⟨w4.heap.size, 2, none⟩ = some (.bool Z.far) := by go_simp
                have m12_4_3 : w12.cell? ⟨w4.heap.size, 3, none⟩ = some (.int .i64 Y) := by go_simp
                have m12_5_0 : w12.cell? ⟨w6.heap.size, 0, none⟩ = some (.int .i64 Z.x) := by go_simp
                have m12_5_1 : w12.cell? ⟨w6.heap.size, 1, none⟩ = some (.int .i64 Z.y) := by go_simp
                have m12_5_2 : w12.cell? ⟨w6.heap.size, 2, none⟩ = some (.bool Z.far) := by go_simp
                have m12_5_3 : w12.cell? ⟨w6.heap.size, 3, none⟩ = some (.int .i64 Y) := by go_simp
                clear m11_0_0 m11_0_1 m11_0_2 m11_1_0 m11_1_1 m11_1_2 m11_2_0 m11_2_1 m11_2_2 m11_2_3 m11_3_0 m11_3_1 m11_3_2 m11_3_3 m11_4_0 m11_4_1 m11_4_2 m11_4_3 m11_5_0 m11_5_1 m11_5_2 m11_5_3
                clear hc12
                have y12_0_0 : w12.frozen? ⟨w4.heap.size, 0, none⟩ = false := by go_simp
                have y12_0_1 : w12.frozen? ⟨w4.heap.size, 1, none⟩ = false := by go_simp
                have y12_0_2 : w12.frozen? ⟨w4.heap.size, 2, none⟩ = false := by go_simp
                have y12_0_3 : w12.frozen? ⟨w4.heap.size, 3, none⟩ = false := by go_simp
                have y12_1_0 : w12.frozen? ⟨w6.heap.size, 0, none⟩ = false := by go_simp
                have y12_1_1 : w12.frozen? ⟨w6.heap.size, 1, none⟩ = false := by go_simp
                have y12_1_2 : w12.frozen? ⟨w6.heap.size, 2, none⟩ = false := by go_simp
                have y12_1_3 : w12.frozen? ⟨w6.heap.size, 3, none⟩ = false := by go_simp
                clear z11 hB11 s11_0 s11_1 s11_2 s11_3 s11_4 s11_5 y11_0_0 y11_0_1 y11_0_2 y11_0_3 y11_1_0 y11_1_1 y11_1_2 y11_1_3 hf12
                go_wp2_with fail
                refine (refSpot_e P E5 _ jE5).mono ?_; rintro e w13 ⟨rfl, hb⟩
                obtain ⟨hc13, hf13⟩ := bcell hb
                have z13 := hb.size
                try simp only [World.size_alloc, World.size_setCell, World.size_drew] at z13
                have s13_0 : w.heap.size < w13.heap.size := by omega
                have s13_1 : w.heap.size + 1 < w13.heap.size := by omega
                have s13_2 : w.heap.size + 1 + 1 < w13.heap.size := by omega
                have s13_3 : w.heap.size + 1 + 1 + 1 < w13.heap.size := by omega
                have s13_4 : w4.heap.size < w13.heap.size := by omega
                have s13_5 : w6.heap.size < w13.heap.size := by omega
                have hB13 : Below w.heap.size w w13 := below_seq (by repeat (first | with_reducible exact hB12 | with_reducible exact Below.refl _ _ | with_reducible refine below_set ?_ (by first | omega | (dsimp only; omega)) _ | with_reducible refine balloc ?_ _ | with_reducible refine Below.drew ?_ | with_reducible refine below_drewN ?_ _ | exact hB12 | exact Below.refl _ _ | refine balloc ?_ _ | refine Below.drew ?_ | refine below_drewN ?_ _ | refine below_set ?_ (by first | omega | (dsimp only; omega)) _)) hb
                clear hb
                have m13_0_0 : w13.cell? ⟨w.heap.size, 0, none⟩ = some (.int .i64 T.x) := by go_simp
                have m13_0_1 : w13.cell? ⟨w.heap.size, 1, none⟩ = some (.int .i64 T.y) := by go_simp
                have m13_0_2 : w13.cell? ⟨w.heap.size, 2, none⟩ = some (.bool T.far) := by go_simp
                have m13_1_0 : w13.cell? ⟨w.heap.size + 1, 0, none⟩ = some (.int .i64 key.x) := by go_simp
                have m13_1_1 : w13.cell? ⟨w.heap.size + 1, 1, none⟩ = some (.int .i64 key.y) := by go_simp
                have m13_1_2 : w13.cell? ⟨w.heap.size + 1, 2, none⟩ = some (.bool key.far) := by go_simp
                have m13_2_0 : w13.cell? ⟨w.heap.size + 1 + 1, 0, none⟩ = some (.int .i64 P.x) := by go_simp
                have m13_2_1 : w13.cell? ⟨w.heap.size + 1 + 1, 1, none⟩ = some (.int .i64 P.y) := by go_simp
                have m13_2_2 : w13.cell? ⟨w.heap.size + 1 + 1, 2, none⟩ = some (.bool P.far) := by go_simp
                have m13_2_3 : w13.cell? ⟨w.heap.size + 1 + 1, 3, none⟩ = some (.int .i64 PS) := by go_simp
                have m13_3_0 : w13.cell? ⟨w.heap.size + 1 + 1 + 1, 0, none⟩ = some (.int .i64 Q.x) := by go_simp
                have m13_3_1 : w13.cell? ⟨w.heap.size + 1 + 1 + 1, 1, none⟩ = some (.int .i64 Q.y) := by go_simp
                have m13_3_2 : w13.cell? ⟨w.heap.size + 1 + 1 + 1, 2, none⟩ = some (.bool Q.far) := by go_simp
                have m13_3_3 : w13.cell? ⟨w.heap.size + 1 + 1 + 1, 3, none⟩ = some (.int .i64 QS) := by go_simp
                have m13_4_0 : w13.cell? ⟨w4.heap.size, 0, none⟩ = some (.int .i64 Z.x) := by go_simp
                have m13_4_1 : w13.cell? ⟨w4.heap.size, 1, none⟩ = some (.int .i64 Z.y) := by go_simp
                have m13_4_2 : w13.cell? ⟨w4.heap.size, 2, none⟩ = some (.bool Z.far) := by go_simp
                have m13_4_3 : w13.cell? ⟨w4.heap.size, 3, none⟩ = some (.int .i64 Y) := by go_simp
                have m13_5_0 : w13.cell? ⟨w6.heap.size, 0, none⟩ = some (.int .i64 Z.x) := by go_simp
                have m13_5_1 : w13.cell? ⟨w6.heap.size, 1, none⟩ = some (.int .i64 Z.y) := by go_simp
                have m13_5_2 : w13.cell? ⟨w6.heap.size, 2, none⟩ = some (.bool Z.far) := by go_simp
                have m13_5_3 : w13.cell? ⟨w6.heap.size, 3, none⟩ = some (.int .i64 Y) := by go_simp
                clear m12_0_0 m12_0_1 m12_0_2 m12_1_0 m12_1_1 m12_1_2 m12_2_0 m12_2_1 m12_2_2 m12_2_3 m12_3_0 m12_3_1 m12_3_2 m12_3_3 m12_4_0 m12_4_1 m12_4_2 m12_4_3 m12_5_0 m12_5_1 m12_5_2 m12_5_3
                clear hc13
                have y13_0_0 : w13.frozen? ⟨w4.heap.size, 0, none⟩ = false := by go_simp
                have y13_0_1 : w13.frozen? ⟨w4.heap.size, 1, none⟩ = false := by go_simp
                have y13_0_2 : w13.frozen? ⟨w4.heap.size, 2, none⟩ = false := by go_simp
                have y13_0_3 : w13.frozen? ⟨w4.heap.size, 3, none⟩ = false := by go_simp
                have y13_1_0 : w13.frozen? ⟨w6.heap.size, 0, none⟩ = false := by go_simp
                have y13_1_1 : w13.frozen? ⟨w6.heap.size, 1, none⟩ = false := by go_simp
                have y13_1_2 : w13.frozen? ⟨w6.heap.size, 2, none⟩ = false := by go_simp
                have y13_1_3 : w13.frozen? ⟨w6.heap.size, 3, none⟩ = false := by go_simp
                clear z12 hB12 s12_0 s12_1 s12_2 s12_3 s12_4 s12_5 y12_0_0 y12_0_1 y12_0_2 y12_0_3 y12_1_0 y12_1_1 y12_1_2 y12_1_3 hf13
                go_wp2_with fail
                refine (rRest_b PS B5 _ jB5).mono ?_; rintro e w' ⟨rfl, rfl⟩
                go_wp2_with fail
                refine (rRest_b n B6 _ jB6).mono ?_; rintro e w' ⟨rfl, rfl⟩
                go_upto_region 25 with fail
                go_cut [136] from 127 to 135 (fun s136 wx => s136 = .bool B7 ∧ Below w.heap.size w wx ∧ w.heap.size < wx.heap.size ∧ w.heap.size + 1 < wx.heap.size ∧ w.heap.size + 1 + 1 < wx.heap.size ∧ w.heap.size + 1 + 1 + 1 < wx.heap.size ∧ w4.heap.size < wx.heap.size ∧ w6.heap.size < wx.heap.size ∧ wx.cell? ⟨w.heap.size, 0, none⟩ = some (.int .i64 T.x) ∧ wx.cell? ⟨w.heap.size, 1, none⟩ = some (.int .i64 T.y) ∧ wx.cell? ⟨w.heap.size, 2, none⟩ = some (.bool T.far) ∧ wx.cell? ⟨w.heap.size + 1, 0, none⟩ = some (.int .i64 key.x) ∧ wx.cell? ⟨w.heap.size + 1, 1, none⟩ = some (.int .i64 key.y) ∧ wx.cell? ⟨w.heap.size + 1, 2, none⟩ = some (.bool key.far) ∧ wx.cell? ⟨w.heap.size + 1 + 1, 0, none⟩ = some (.int .i64 P.x) ∧ wx.cell? ⟨w.heap.size + 1 + 1, 1, none⟩ = some (.int .i64 P.y) ∧ wx.cell? ⟨w.heap.size + 1 + 1, 2, none⟩ = some (.bool P.far) ∧ wx.cell? ⟨w.heap.size + 1 + 1, 3, none⟩ = some (.int .i64 PS) ∧ wx.cell? ⟨w.heap.size + 1 + 1 + 1, 0, none⟩ = some (.int .i64 Q.x) ∧ wx.cell? ⟨w.heap.size + 1 + 1 + 1, 1, none⟩ = some (.int .i64 Q.y) ∧ wx.cell? ⟨w.heap.size + 1 + 1 + 1, 2, none⟩ = some (.bool Q.far) ∧ wx.cell? ⟨w.heap.size + 1 + 1 + 1, 3, none⟩ = some (.int .i64 QS) ∧ wx.cell? ⟨w4.heap.size, 0, none⟩ = some (.int .i64 Z.x) ∧ wx.cell? ⟨w4.heap.size, 1, none⟩ = some (.int .i64 Z.y) ∧ wx.cell? ⟨w4.heap.size, 2, none⟩ = some (.bool Z.far) ∧ wx.cell? ⟨w4.heap.size, 3, none⟩ = some (.int .i64 Y) ∧ wx.cell? ⟨w6.heap.size, 0, none⟩ = some (.int .i64 Z.x) ∧ wx.cell? ⟨w6.heap.size, 1, none⟩ = some (.int .i64 Z.y) ∧ wx.cell? ⟨w6.heap.size, 2, none⟩ = some (.bool Z.far) ∧ wx.cell? ⟨w6.heap.size, 3, none⟩ = some (.int .i64 Y) ∧ wx.frozen? ⟨w4.heap.size, 0, none⟩ = false ∧ wx.frozen? ⟨w4.heap.size, 1, none⟩ = false ∧ wx.frozen? ⟨w4.heap.size, 2, none⟩ = false ∧ wx.frozen? ⟨w4.heap.size, 3, none⟩ = false ∧ wx.frozen? ⟨w6.heap.size, 0, none⟩ = false ∧ wx.frozen? ⟨w6.heap.size, 1, none⟩ = false ∧ wx.frozen? ⟨w6.heap.size, 2, none⟩ = false ∧ wx.frozen? ⟨w6.heap.size, 3, none⟩ = false)
                case first =>
                  rcases h7.out with ⟨e1, e2, e3, e4⟩ | ⟨e1, e2, e3, e4⟩ | ⟨e1, e2, e3⟩ | ⟨e1, e2⟩
                  · subst e1 e2 e3 e4
                    clear h7
                    go_wp2_with fail
                    go_meet
                    exact ⟨rfl, (by repeat (first | with_reducible exact hB13 | with_reducible exact Below.refl _ _ | with_reducible refine below_set ?_ (by first | omega | (dsimp only; omega)) _ | with_reducible refine balloc ?_ _ | with_reducible refine Below.drew ?_ | with_reducible refine below_drewN ?_ _ | exact hB13 | exact Below.refl _ _ | refine balloc ?_ _ | refine Below.drew ?_ | refine below_drewN ?_ _ | refine below_set ?_ (by first | omega | (dsimp only; omega)) _)), (by first | with_reducible assumption | omega | (simp only [World.heap_drewN, World.size_alloc, World.size_setCell, World.size_drew]; omega)), (by first | with_reducible assumption | omega | (simp only [World.heap_drewN, World.size_alloc, World.size_setCell, World.size_drew]; omega)), (by first | with_reducible assumption | omega | (simp only [World.heap_drewN, World.size_alloc, World.size_setCell, World.size_drew]; omega)), (by first | with_reducible assumption | omega | (simp only [World.heap_drewN, World.size_alloc, World.size_setCell, World.size_drew]; omega)), (by first | with_reducible assumption | omega | (simp only [World.heap_drewN, World.size_alloc, World.size_setCell, World.size_drew]; omega)), (by first | with_reducible assumption | omega | (simp only [World.heap_drewN, World.size_alloc, World.size_setCell, World.size_drew]; omega)), (by first | with_reducible assumption | go_simp), (by first | with_reducible assumption | go_simp), (by first | with_reducible assumption | go_simp), (by first | with_reducible assumption | go_simp), (by first | with_reducible assumption | go_simp), (by first | with_reducible assumption | go_simp), (by first | with_reducible assumption | go_simp), (by first | with_reducible assumption | go_simp), (by first | with_reducible assumption | go_simp), (by first | with_reducible assumption | go_simp), (by first | with_reducible assumption | go_simp), (by first | with_reducible assumption | go_simp), (by first | with_reducible assumption | go_simp), (by first | with_reducible assumption | go_simp), (by first | with_reducible assumption | go_simp), (by first | with_reducible assumption | go_simp), (by first | with_reducible assumption | go_simp), (by first | with_reducible assumption | go_simp), (by first | with_reducible assumption | go_simp), (by first | with_reducible assumption | go_simp), (by first | with_reducible assumption | go_simp), (by first | with_reducible assumption | go_simp), (by first | with_reducible assumption | go_simp), (by first | with_reducible assumption | go_simp), (by first | with_reducible assumption | go_simp), (by first | with_reducible assumption | go_simp), (by first | with_reducible assumption | go_simp), (by first | with_reducible assumption | go_simp), (by first | with_reducible assumption | go_simp), (by first | with_reducible assumption | go_simp)⟩
                  · skip
                    subst e1 e2 e3 e4
                    clear h7
                    go_wp2_with fail
                    go_meet
                    exact ⟨rfl, (by repeat (first | with_reducible exact hB13 | with_reducible exact Below.refl _ _ | with_reducible refine below_set ?_ (by first | omega | (dsimp only; omega)) _ | with_reducible refine balloc ?_ _ | with_reducible refine Below.drew ?_ | with_reducible refine below_drewN ?_ _ | exact hB13 | exact Below.refl _ _ | refine balloc ?_ _ | refine Below.drew ?_ | refine below_drewN ?_ _ | refine below_set ?_ (by first | omega | (dsimp only; omega)) _)), (by first | with_reducible assumption | omega | (simp only [World.heap_drewN, World.size_alloc, World.size_setCell, World.size_drew]; omega)), (by first | with_reducible assumption | omega | (simp only [World.heap_drewN, World.size_alloc, World.size_setCell, World.size_drew]; omega)), (by first | with_reducible assumption | omega | (simp only [World.heap_drewN, World.size_alloc, World.size_setCell, World.size_drew]; omega)), (by first | with_reducible assumption | omega | (simp only [World.heap_drewN, World.size_alloc, World.size_setCell, World.size_drew]; omega)), (by first | with_reducible assumption | omega | (simp only [World.heap_drewN, World.size_alloc, World.size_setCell, World.size_drew]; omega)), (by first | with_reducible assumption | omega | (simp only [World.heap_drewN, World.size_alloc, World.size_setCell, World.size_drew]; omega)), (by first | with_reducible assumption | go_simp), (by first | with_reducible assumption | go_simp), (by first | with_reducible assumption | go_simp), (by first | with_reducible assumption | go_simp), (by first | with_reducible assumption | go_simp), (by first | with_reducible assumption | go_simp), (by first | with_reducible assumption | go_simp), (by first | with_reducible assumption | go_simp), (by first | with_reducible assumption | go_simp), (by first | with_reducible assumption | go_simp), (by first | with_reducible assumption | go_simp), (by first | with_reducible assumption | go_simp), (by first | with_reducible assumption | go_simp), (by first | with_reducible assumption | go_simp), (by first | with_reducible assumption | go_simp), (by first | with_reducible assumption | go_simp), (by first | with_reducible assumption | go_simp), (by first | with_reducible assumption | go_simp), (by first | with_reducible assumption | go_simp), (by first | with_reducible assumption | go_simp), (by first | with_reducible assumption | go_simp), (by first | with_reducible assumption | go_simp), (by first | with_reducible assumption | go_simp), (by first | with_reducible assumption | go_simp), (by first | with_reducible assumption | go_simp), (by first | with_reducible assumption | go_simp), (by first | with_reducible assumption | go_simp), (by first | with_reducible assumption | go_simp), (by first | with_reducible assumption | go_simp), (by first | with_reducible assumption | go_simp)⟩
                  · skip
                    subst e1 e2 e3
                    clear h7
                    go_wp2_with fail
                    go_meet
                    exact ⟨rfl, (by repeat (first | with_reducible exact hB13 | with_reducible exact Below.refl _ _ | with_reducible refine below_set ?_ (by first | omega | (dsimp only; omega)) _ | with_reducible refine balloc ?_ _ | with_reducible refine Below.drew ?_ | with_reducible refine below_drewN ?_ _ | exact hB13 | exact Below.refl _ _ | refine balloc ?_ _ | refine Below.drew ?_ | refine below_drewN ?_ _ | refine below_set ?_ (by first | omega | (dsimp only; omega)) _)), (by first | with_reducible assumption | omega | (simp only [World.heap_drewN, World.size_alloc, World.size_setCell, World.size_drew]; omega)), (by first | with_reducible assumption | omega | (simp only [World.heap_drewN, World.size_alloc, World.size_setCell, World.size_drew]; omega)), (by first | with_reducible assumption | omega | (simp only [World.heap_drewN, World.size_alloc, World.size_setCell, World.size_drew]; omega)), (by first | with_reducible assumption | omega | (simp only [World.heap_drewN, World.size_alloc, World.size_setCell, World.size_drew]; omega)), (by first | with_reducible assumption | omega | (simp only [World.heap_drewN, World.size_alloc, World.size_setCell, World.size_drew]; omega)), (by first | with_reducible assumption | omega | (simp only [World.heap_drewN, World.size_alloc, World.size_setCell, World.size_drew]; omega)), (by first | with_reducible assumption | go_simp), (by first | with_reducible assumption | go_simp), (by first | with_reducible assumption | go_simp), (by first | with_reducible assumption | go_simp), (by first | with_reducible assumption | go_simp), (by first | with_reducible assumption | go_simp), (by first | with_reducible assumption | go_simp), (by first | with_reducible assumption | go_simp), (by first | with_reducible assumption | go_simp), (by first | with_reducible assumption | go_simp), (by first | with_reducible assumption | go_simp), (by first | with_reducible assumption | go_simp), (by first | with_reducible assumption | go_simp), (by first | with_reducible assumption | go_simp), (by first | with_reducible assumption | go_simp), (by first | with_reducible assumption | go_simp), (by first | with_reducible assumption | go_simp), (by first | with_reducible assumption | go_simp), (by first | with_reducible assumption | go_simp), (by first | with_reducible assumption | go_simp), (by first | with_reducible assumption | go_simp), (by first | with_reducible assumption | go_simp), (by first | with_reducible assumption | go_simp), (by first | with_reducible assumption | go_simp), (by first | with_reducible assumption | go_simp), (by first | with_reducible assumption | go_simp), (by first | with_reducible assumption | go_simp), (by first | with_reducible assumption | go_simp), (by first | with_reducible assumption | go_simp), (by first | with_reducible assumption | go_simp)⟩
                  · skip
                    subst e2
                    clear h7
                    go_wp2_with fail
                    go_meet
                    exact ⟨rfl, (by repeat (first | with_reducible exact hB13 | with_reducible exact Below.refl _ _ | with_reducible refine below_set ?_ (by first | omega | (dsimp only; omega)) _ | with_reducible refine balloc ?_ _ | with_reducible refine Below.drew ?_ | with_reducible refine below_drewN ?_ _ | exact hB13 | exact Below.refl _ _ | refine balloc ?_ _ | refine Below.drew ?_ | refine below_drewN ?_ _ | refine below_set ?_ (by first | omega | (dsimp only; omega)) _)), (by first | with_reducible assumption | omega | (simp only [World.heap_drewN, World.size_alloc, World.size_setCell, World.size_drew]; omega)), (by first | with_reducible assumption | omega | (simp only [World.heap_drewN, World.size_alloc, World.size_setCell, World.size_drew]; omega)), (by first | with_reducible assumption | omega | (simp only [World.heap_drewN, World.size_alloc, World.size_setCell, World.size_drew]; omega)), (by first | with_reducible assumption | omega | (simp only [World.heap_drewN, World.size_alloc, World.size_setCell, World.size_drew]; omega)), (by first | with_reducible assumption | omega | (simp only [World.heap_drewN, World.size_alloc, World.size_setCell, World.size_drew]; omega)), (by first | with_reducible assumption | omega | (simp only [World.heap_drewN, World.size_alloc, World.size_setCell, World.size_drew]; omega)), (by first | with_reducible assumption | go_simp), (by first | with_reducible assumption | go_simp), (by first | with_reducible assumption | go_simp), (by first | with_reducible assumption | go_simp), (by first | with_reducible assumption | go_simp), (by first | with_reducible assumption | go_simp), (by first | with_reducible assumption | go_simp), (by first | with_reducible assumption | go_simp), (by first | with_reducible assumption | go_simp), (by first | with_reducible assumption | go_simp), (by first | with_reducible assumption | go_simp), (by first | with_reducible assumption | go_simp), (by first | with_reducible assumption | go_simp), (by first | with_reducible assumption | go_simp), (by first | with_reducible assumption | go_simp), (by first | with_reducible assumption | go_simp), (by first | with_reducible assumption | go_simp), (by first | with_reducible assumption | go_simp), (by first | with_reducible assumption | go_simp), (by first | with_reducible assumption | go_simp), (by first | with_reducible assumption | go_simp), (by first | with_reducible assumption | go_simp), (by first | with_reducible assumption | go_simp), (by first | with_reducible assumption | go_simp), (by first | with_reducible assumption | go_simp), (by first | with_reducible assumption | go_simp), (by first | with_reducible assumption | go_simp), (by first | with_reducible assumption | go_simp), (by first | with_reducible assumption | go_simp), (by first | with_reducible assumption | go_simp)⟩
                case rest =>
                  obtain ⟨w14, hwq⟩ : ∃ x, x = wc := ⟨_, rfl⟩
                  subst hwq
                  obtain ⟨rfl, hB14, s14_0, s14_1, s14_2, s14_3, s14_4, s14_5, m14_0_0, m14_0_1, m14_0_2, m14_1_0, m14_1_1, m14_1_2, m14_2_0, m14_2_1, m14_2_2, m14_2_3, m14_3_0, m14_3_1, m14_3_2, m14_3_3, m14_4_0, m14_4_1, m14_4_2, m14_4_3, m14_5_0, m14_5_1, m14_5_2, m14_5_3, y14_0_0, y14_0_1, y14_0_2, y14_0_3, y14_1_0, y14_1_1, y14_1_2, y14_1_3⟩ := hcut
                  clear m13_0_0 m13_0_1 m13_0_2 m13_1_0 m13_1_1 m13_1_2 m13_2_0 m13_2_1 m13_2_2 m13_2_3 m13_3_0 m13_3_1 m13_3_2 m13_3_3 m13_4_0 m13_4_1 m13_4_2 m13_4_3 m13_5_0 m13_5_1 m13_5_2 m13_5_3
                  clear z13 hB13 s13_0 s13_1 s13_2 s13_3 s13_4 s13_5 y13_0_0 y13_0_1 y13_0_2 y13_0_3 y13_1_0 y13_1_1 y13_1_2 y13_1_3
                  clear h7
                  go_upto_if 136 with fail
                  go_cut [17] from 137 to 137 (fun s17 wx => s17 = .int .i64 E6 ∧ Below w.heap.size w wx ∧ w.heap.size < wx.heap.size ∧ w.heap.size + 1 < wx.heap.size ∧ w.heap.size + 1 + 1 < wx.heap.size ∧ w.heap.size + 1 + 1 + 1 < wx.heap.size ∧ w4.heap.size < wx.heap.size ∧ w6.heap.size < wx.heap.size ∧ wx.cell? ⟨w.heap.size, 0, none⟩ = some (.int .i64 T.x) ∧ wx.cell? ⟨w.heap.size, 1, none⟩ = some (.int .i64 T.y) ∧ wx.cell? ⟨w.heap.size, 2, none⟩ = some (.bool T.far) ∧ wx.cell? ⟨w.heap.size + 1, 0, none⟩ = some (.int .i64 key.x) ∧ wx.cell? ⟨w.heap.size + 1, 1, none⟩ = some (.int .i64 key.y) ∧ wx.cell? ⟨w.heap.size + 1, 2, none⟩ = some (.bool key.far) ∧ wx.cell? ⟨w.heap.size + 1 + 1, 0, none⟩ = some (.int .i64 P.x) ∧ wx.cell? ⟨w.heap.size + 1 + 1, 1, none⟩ = some (.int .i64 P.y) ∧ wx.cell? ⟨w.heap.size + 1 + 1, 2, none⟩ = some (.bool P.far) ∧ wx.cell? ⟨w.heap.size + 1 + 1, 3, none⟩ = some (.int .i64 PS) ∧ wx.cell? ⟨w.heap.size + 1 + 1 + 1, 0, none⟩ = some (.int .i64 Q.x) ∧ wx.cell? ⟨w.heap.size + 1 + 1 + 1, 1, none⟩ = some (.int .i64 Q.y) ∧ wx.cell? ⟨w.heap.size + 1 + 1 + 1, 2, none⟩ = some (.bool Q.far) ∧ wx.cell? ⟨w.heap.size + 1 + 1 + 1, 3, none⟩ = some (.int .i64 QS) ∧ wx.cell? ⟨w4.heap.size, 0, none⟩ = some (.int .i64 Z.x) ∧ wx.cell? ⟨w4.heap.size, 1, none⟩ = some (.int .i64 Z.y) ∧ wx.cell? ⟨w4.heap.size, 2, none⟩ = some (.bool Z.far) ∧ wx.cell? ⟨w4.heap.size, 3, none⟩ = some (.int .i64 Y) ∧ wx.cell? ⟨w6.heap.size, 0, none⟩ = some (.int .i64 Z.x) ∧ wx.cell? ⟨w6.heap.size, 1, none⟩ = some (.int .i64 Z.y) ∧ wx.cell? ⟨w6.heap.size, 2, none⟩ = some (.bool Z.far) ∧ wx.cell? ⟨w6.heap.size, 3, none⟩ = some (.int .i64 Y) ∧ wx.frozen? ⟨w4.heap.size, 0, none⟩ = false ∧ wx.frozen? ⟨w4.heap.size, 1, none⟩ = false ∧ wx.frozen? ⟨w4.heap.size, 2, none⟩ = false ∧ wx.frozen? ⟨w4.heap.size, 3, none⟩ = false ∧ wx.frozen? ⟨w6.heap.size, 0, none⟩ = false ∧ wx.frozen? ⟨w6.heap.size, 1, none⟩ = false ∧ wx.frozen? ⟨w6.heap.size, 2, none⟩ = false ∧ wx.frozen? ⟨w6.heap.size, 3, none⟩ = false)
                  case first =>
                    rcases h8.out with ⟨e1, e2⟩ | ⟨e1, e2⟩
                    · subst e1 e2
                      clear h8
                      go_wp2_with fail
                      go_meet
                      exact ⟨rfl, (by repeat (first | with_reducible exact hB14 | with_reducible exact Below.refl _ _ | with_reducible refine below_set ?_ (by first | omega | (dsimp only; omega)) _ | with_reducible refine balloc ?_ _ | with_reducible refine Below.drew ?_ | with_reducible refine below_drewN ?_ _ | exact hB14 | exact Below.refl _ _ | refine balloc ?_ _ | refine Below.drew ?_ | refine below_drewN ?_ _ | refine below_set ?_ (by first | omega | (dsimp only; omega)) _)), (by first | with_reducible assumption | omega | (simp only [World.heap_drewN, World.size_alloc, World.size_setCell, World.size_drew]; omega)), (by first | with_reducible assumption | omega | (simp only [World.heap_drewN, World.size_alloc, World.size_setCell, World.size_drew]; omega)), (by first | with_reducible assumption | omega | (simp only [World.heap_drewN, World.size_alloc, World.size_setCell, World.size_drew]; omega)), (by first | with_reducible assumption | omega | (simp only [World.heap_drewN, World.size_alloc, World.size_setCell, World.size_drew]; omega)), (by first | with_reducible assumption | omega | (simp only [World.heap_drewN, World.size_alloc, World.size_setCell, World.size_drew]; omega)), (by first | with_reducible assumption | omega | (simp only [World.heap_drewN, World.size_alloc, World.size_setCell, World.size_drew]; omega)), (by first | with_reducible assumption | go_simp), (by first | with_reducible assumption | go_simp), (by first | with_reducible assumption | go_simp), (by first | with_reducible assumption | go_simp), (by first | with_reducible assumption | go_simp), (by first | with_reducible assumption | go_simp), (by first | with_reducible assumption | go_simp), (by first | with_reducible assumption | go_simp), (by first | with_reducible assumption | go_simp), (by first | with_reducible assumption | go_simp), (by first | with_reducible assumption | go_simp), (by first | with_reducible assumption | go_simp), (by first | with_reducible assumption | go_simp), (by first | with_reducible assumption | go_simp), (by first | with_reducible assumption | go_simp), (by first | with_reducible assumption | go_simp), (by first | with_reducible assumption | go_simp), (by first | with_reducible assumption | go_simp), (by first | with_reducible assumption | go_simp), (by first | with_reducible assumption | go_simp), (by first | with_reducible assumption | go_simp), (by first | with_reducible assumption | go_simp), (by first | with_reducible assumption | go_simp), (by first | with_reducible assumption | go_simp), (by first | with_reducible assumption | go_simp), (by first | with_reducible assumption | go_simp), (by first | with_reducible assumption | go_simp), (by first | with_reducible assumption | go_simp), (by first | with_reducible assumption | go_simp), (by first | with_reducible assumption | go_simp)⟩
                    · skip
                      subst e1 e2
                      clear h8
                      go_wp2_with fail
                      go_meet
                      exact ⟨rfl, (by repeat (first | with_reducible exact hB14 | with_reducible exact Below.refl _ _ | with_reducible refine below_set ?_ (by first | omega | (dsimp only; omega)) _ | with_reducible refine balloc ?_ _ | with_reducible refine Below.drew ?_ | with_reducible refine below_drewN ?_ _ | exact hB14 | exact Below.refl _ _ | refine balloc ?_ _ | refine Below.drew ?_ | refine below_drewN ?_ _ | refine below_set ?_ (by first | omega | (dsimp only; omega)) _)), (by first | with_reducible assumption | omega | (simp only [World.heap_drewN, World.size_alloc, World.size_setCell, World.size_drew]; omega)), (by first | with_reducible assumption | omega | (simp only [World.heap_drewN, World.size_alloc, World.size_setCell, World.size_drew]; omega)), (by first | with_reducible assumption | omega | (simp only [World.heap_drewN, World.size_alloc, World.size_setCell, World.size_drew]; omega)), (by first | with_reducible assumption | omega | (simp only [World.heap_drewN, World.size_alloc, World.size_setCell, World.size_drew]; omega)), (by first | with_reducible assumption | omega | (simp only [World.heap_drewN, World.size_alloc, World.size_setCell, World.size_drew]; omega)), (by first | with_reducible assumption | omega | (simp only [World.heap_drewN, World.size_alloc, World.size_setCell, World.size_drew]; omega)), (by first | with_reducible assumption | go_simp), (by first | with_reducible assumption | go_simp), (by first | with_reducible assumption | go_simp), (by first | with_reducible assumption | go_simp), (by first | with_reducible assumption | go_simp), (by first | with_reducible assumption | go_simp), (by first | with_reducible assumption | go_simp), (by first | with_reducible assumption | go_simp), (by first | with_reducible assumption | go_simp), (by first | with_reducible assumption | go_simp), (by first | with_reducible assumption | go_simp), (by first | with_reducible assumption | go_simp), (by first | with_reducible assumption | go_simp), (by first | with_reducible assumption | go_simp), (by first | with_reducible assumption | go_simp), (by first | with_reducible assumption | go_simp), (by first | with_reducible assumption | go_simp), (by first | with_reducible assumption | go_simp), (by first | with_reducible assumption | go_simp), (by first | with_reducible assumption | go_simp), (by first | with_reducible assumption | go_simp), (by first | with_reducible assumption | go_simp), (by first | with_reducible assumption | go_simp), (by first | with_reducible assumption | go_simp), (by first | with_reducible assumption | go_simp), (by first | with_reducible assumption | go_simp), (by first | with_reducible assumption | go_simp), (by first | with_reducible assumption | go_simp), (by first | with_reducible assumption | go_simp), (by first | with_reducible assumption | go_simp)⟩
                  case rest =>
                    obtain ⟨w15, hwq⟩ : ∃ x, x = wc := ⟨_, rfl⟩
                    subst hwq
                    obtain ⟨rfl, hB15, s15_0, s15_1, s15_2, s15_3, s15_4, s15_5, m15_0_0, m15_0_1, m15_0_2, m15_1_0, m15_1_1, m15_1_2, m15_2_0, m15_2_1, m15_2_2, m15_2_3, m15_3_0, m15_3_1, m15_3_2, m15_3_3, m15_4_0, m15_4_1, m15_4_2, m15_4_3, m15_5_0, m15_5_1, m15_5_2, m15_5_3, y15_0_0, y15_0_1, y15_0_2, y15_0_3, y15_1_0, y15_1_1, y15_1_2, y15_1_3⟩ := hcut
                    clear m14_0_0 m14_0_1 m14_0_2 m14_1_0 m14_1_1 m14_1_2 m14_2_0 m14_2_1 m14_2_2 m14_2_3 m14_3_0 m14_3_1 m14_3_2 m14_3_3 m14_4_0 m14_4_1 m14_4_2 m14_4_3 m14_5_0 m14_5_1 m14_5_2 m14_5_3
                    clear hB14 s14_0 s14_1 s14_2 s14_3 s14_4 s14_5 y14_0_0 y14_0_1 y14_0_2 y14_0_3 y14_1_0 y14_1_1 y14_1_2 y14_1_3
                    clear h8
                    go_upto_if 139 with fail
                    obtain ⟨w16, hwq⟩ : ∃ x, x = (((w15.setCell ⟨w4.heap.size, 0, none⟩ (.int .i64 0)).setCell ⟨w4.heap.size, 1, none⟩ (.int .i64 0)).setCell ⟨w4.heap.size, 2, none⟩ (.bool false)).setCell ⟨w4.heap.size, 3, none⟩ (.int .i64 0) := ⟨_, rfl⟩
                    rw [← hwq]
                    have hB16 : Below w.heap.size w w16 := by rw [hwq]; exact (by repeat (first | with_reducible exact hB15 | with_reducible exact Below.refl _ _ | with_reducible refine below_set ?_ (by first | omega | (dsimp only; omega)) _ | with_reducible refine balloc ?_ _ | with_reducible refine Below.drew ?_ | with_reducible refine below_drewN ?_ _ | exact hB15 | exact Below.refl _ _ | refine balloc ?_ _ | refine Below.drew ?_ | refine below_drewN ?_ _ | refine below_set ?_ (by first | omega | (dsimp only; omega)) _))
                    have s16_0 : w.heap.size < w16.heap.size := by rw [hwq]; (first | omega | (simp only [World.heap_drewN, World.size_alloc, World.size_setCell, World.size_drew]; omega))
                    have s16_1 : w.heap.size + 1 < w16.heap.size := by rw [hwq]; (first | omega | (simp only [World.heap_drewN, World.size_alloc, World.size_setCell, World.size_drew]; omega))
                    have s16_2 : w.heap.size + 1 + 1 < w16.heap.size := by rw [hwq]; (first | omega | (simp only [World.heap_drewN, World.size_alloc, World.size_setCell, World.size_drew]; omega))
                    have s16_3 : w.heap.size + 1 + 1 + 1 < w16.heap.size := by rw [hwq]; (first | omega | (simp only [World.heap_drewN, World.size_alloc, World.size_setCell, World.size_drew]; omega))
                    have s16_4 : w4.heap.size < w16.heap.size := by rw [hwq]; (first | omega | (simp only [World.heap_drewN, World.size_alloc, World.size_setCell, World.size_drew]; omega))
                    have s16_5 : w6.heap.size < w16.heap.size := by rw [hwq]; (first | omega | (simp only [World.heap_drewN, World.size_alloc, World.size_setCell, World.size_drew]; omega))
                    have m16_0_0 : w16.cell? ⟨w.heap.size, 0, none⟩ = some (.int .i64 T.x) := by rw [hwq]; go_simp
                    have m16_0_1 : w16.cell? ⟨w.heap.size, 1, none⟩ = some (.int .i64 T.y) := by rw [hwq]; go_simp
                    have m16_0_2 : w16.cell? ⟨w.heap.size, 2, none⟩ = some (.bool T.far) := by rw [hwq]; go_simp
                    have m16_1_0 : w16.cell? ⟨w.heap.size + 1, 0, none⟩ = some (.int .i64 key.x) := by rw [hwq]; go_simp
                    have m16_1_1 : w16.cell? ⟨w.heap.size + 1, 1, none⟩ = some (.int .i64 key.y) := by rw [hwq]; go_simp
                    have m16_1_2 : w16.cell? ⟨w.heap.size + 1, 2, none⟩ = some (.bool key.far) := by rw [hwq]; go_simp
                    have m16_2_0 : w16.cell? ⟨w.heap.size + 1 + 1, 0, none⟩ = some (.int .i64 P.x) := by rw [hwq]; go_simp
                    have m16_2_1 : w16.cell? ⟨w.heap.size + 1 + 1, 1, none⟩ = some (.int .i64 P.y) := by rw [hwq]; go_simp
                    have m16_2_2 : w16.cell? ⟨w.heap.size + 1 + 1, 2, none⟩ = some (.bool P.far) := by rw [hwq]; go_simp
                    have m16_2_3 : w16.cell? ⟨w.heap.size + 1 + 1, 3, none⟩ = some (.int .i64 PS) := by rw [hwq]; go_simp
                    have m16_3_0 : w16.cell? ⟨w.heap.size + 1 + 1 + 1, 0, none⟩ = some (.int .i64 Q.x) := by rw [hwq]; go_simp
                    have m16_3_1 : w16.cell? ⟨w.heap.size + 1 + 1 + 1, 1, none⟩ = some (.int .i64 Q.y) := by rw [hwq]; go_simp
                    have m16_3_2 : w16.cell? ⟨w.heap.size + 1 + 1 + 1, 2, none⟩ = some (.bool Q.far) := by rw [hwq]; go_simp
                    have m16_3_3 : w16.cell? ⟨w.heap.size + 1 + 1 + 1, 3, none⟩ = some (.int .i64 QS) := by rw [hwq]; go_simp
                    have m16_4_0 : w16.cell? ⟨w4.heap.size, 0, none⟩ = some (.int .i64 0) := by rw [hwq]; go_simp
                    have m16_4_1 : w16.cell? ⟨w4.heap.size, 1, none⟩ = some (.int .i64 0) := by rw [hwq]; go_simp
                    have m16_4_2 : w16.cell? ⟨w4.heap.size, 2, none⟩ = some (.bool false) := by rw [hwq]; go_simp
                    have m16_4_3 : w16.cell? ⟨w4.heap.size, 3, none⟩ = some (.int .i64 0) := by rw [hwq]; go_simp
                    have m16_5_0 : w16.cell? ⟨w6.heap.size, 0, none⟩ = some (.int .i64 Z.x) := by rw [hwq]; go_simp
                    have m16_5_1 : w16.cell? ⟨w6.heap.size, 1, none⟩ = some (.int .i64 Z.y) := by rw [hwq]; go_simp
                    have m16_5_2 : w16.cell? ⟨w6.heap.size, 2, none⟩ = some (.bool Z.far) := by rw [hwq]; go_simp
                    have m16_5_3 : w16.cell? ⟨w6.heap.size, 3, none⟩ = some (.int .i64 Y) := by rw [hwq]; go_simp
                    have y16_0_0 : w16.frozen? ⟨w4.heap.size, 0, none⟩ = false := by rw [hwq]; go_simp
                    have y16_0_1 : w16.frozen? ⟨w4.heap.size, 1, none⟩ = false := by rw [hwq]; go_simp
                    have y16_0_2 : w16.frozen? ⟨w4.heap.size, 2, none⟩ = false := by rw [hwq]; go_simp
                    have y16_0_3 : w16.frozen? ⟨w4.heap.size, 3, none⟩ = false := by rw [hwq]; go_simp
                    have y16_1_0 : w16.frozen? ⟨w6.heap.size, 0, none⟩ = false := by rw [hwq]; go_simp
                    have y16_1_1 : w16.frozen? ⟨w6.heap.size, 1, none⟩ = false := by rw [hwq]; go_simp
                    have y16_1_2 : w16.frozen? ⟨w6.heap.size, 2, none⟩ = false := by rw [hwq]; go_simp
                    have y16_1_3 : w16.frozen? ⟨w6.heap.size, 3, none⟩ = false := by rw [hwq]; go_simp
                    clear m15_0_0 m15_0_1 m15_0_2 m15_1_0 m15_1_1 m15_1_2 m15_2_0 m15_2_1 m15_2_2 m15_2_3 m15_3_0 m15_3_1 m15_3_2 m15_3_3 m15_4_0 m15_4_1 m15_4_2 m15_4_3 m15_5_0 m15_5_1 m15_5_2 m15_5_3
                    clear hB15 s15_0 s15_1 s15_2 s15_3 s15_4 s15_5 y15_0_0 y15_0_1 y15_0_2 y15_0_3 y15_1_0 y15_1_1 y15_1_2 y15_1_3
                    clear hwq
                    go_cut [30] from 139 to 147 (fun s30 wx => True ∧ Below w.heap.size w wx ∧ w.heap.size < wx.heap.size ∧ w.heap.size + 1 < wx.heap.size ∧ w.heap.size + 1 + 1 < wx.heap.size ∧ w.heap.size + 1 + 1 + 1 < wx.heap.size ∧ w4.heap.size < wx.heap.size ∧ w6.heap.size < wx.heap.size ∧ wx.cell? ⟨w.heap.size, 0, none⟩ = some (.int .i64 T.x) ∧ wx.cell? ⟨w.heap.size, 1, none⟩ = some (.int .i64 T.y) ∧ wx.cell? ⟨w.heap.size, 2, none⟩ = some (.bool T.far) ∧ wx.cell? ⟨w.heap.size + 1, 0, none⟩ = some (.int .i64 key.x) ∧ wx.cell? ⟨w.heap.size + 1, 1, none⟩ = some (.int .i64 key.y) ∧ wx.cell? ⟨w.heap.size + 1, 2, none⟩ = some (.bool key.far) ∧ wx.cell? ⟨w.heap.size + 1 + 1, 0, none⟩ = some (.int .i64 P.x) ∧ wx.cell? ⟨w.heap.size + 1 + 1, 1, none⟩ = some (.int .i64 P.y) ∧ wx.cell? ⟨w.heap.size + 1 + 1, 2, none⟩ = some (.bool P.far) ∧ wx.cell? ⟨w.heap.size + 1 + 1, 3, none⟩ = some (.int .i64 PS) ∧ wx.cell? ⟨w.heap.size + 1 + 1 + 1, 0, none⟩ = some (.int .i64 Q.x) ∧ wx.cell? ⟨w.heap.size + 1 + 1 + 1, 1, none⟩ = some (.int .i64 Q.y) ∧ wx.cell? ⟨w.heap.size + 1 + 1 + 1, 2, none⟩ = some (.bool Q.far) ∧ wx.cell? ⟨w.heap.size + 1 + 1 + 1, 3, none⟩ = some (.int .i64 QS) ∧ wx.cell? ⟨w4.heap.size, 0, none⟩ = some (.int .i64 Z2.x) ∧ wx.cell? ⟨w4.heap.size, 1, none⟩ = some (.int .i64 Z2.y) ∧ wx.cell? ⟨w4.heap.size, 2, none⟩ = some (.bool Z2.far) ∧ wx.cell? ⟨w4.heap.size, 3, none⟩ = some (.int .i64 Y2) ∧ wx.cell? ⟨w6.heap.size, 0, none⟩ = some (.int .i64 Z.x) ∧ wx.cell? ⟨w6.heap.size, 1, none⟩ = some (.int .i64 Z.y) ∧ wx.cell? ⟨w6.heap.size, 2, none⟩ = some (.bool Z.far) ∧ wx.cell? ⟨w6.heap.size, 3, none⟩ = some (.int .i64 Y) ∧ wx.frozen? ⟨w4.heap.size, 0, none⟩ = false ∧ wx.frozen? ⟨w4.heap.size, 1, none⟩ = false ∧ wx.frozen? ⟨w4.heap.size, 2, none⟩ = false ∧ wx.frozen? ⟨w4.heap.size, 3, none⟩ = false ∧ wx.frozen? ⟨w6.heap.size, 0, none⟩ = false ∧ wx.frozen? ⟨w6.heap.size, 1, none⟩ = false ∧ wx.frozen? ⟨w6.heap.size, 2, none⟩ = false ∧ wx.frozen? ⟨w6.heap.size, 3, none⟩ = false)
                    case first =>
                      rcases h9.out with ⟨e1, s0, s1, t0, t1, e2, hY⟩ | ⟨e1, e2, e3⟩
                      · subst e1 e2 hY
                        clear h9
                        go_wp2_with fail
                        go_meet
                        exact ⟨trivial, (by repeat (first | with_reducible exact hB16 | with_reducible exact Below.refl _ _ | with_reducible refine below_set ?_ (by first | omega | (dsimp only; omega)) _ | with_reducible refine balloc ?_ _ | with_reducible refine Below.drew ?_ | with_reducible refine below_drewN ?_ _ | exact hB16 | exact Below.refl _ _ | refine balloc ?_ _ | refine Below.drew ?_ | refine below_drewN ?_ _ | refine below_set ?_ (by first | omega | (dsimp only; omega)) _)), (by first | with_reducible assumption | omega | (simp only [World.heap_drewN, World.size_alloc, World.size_setCell, World.size_drew]; omega)), (by first | with_reducible assumption | omega | (simp only [World.heap_drewN, World.size_alloc, World.size_setCell, World.size_drew]; omega)), (by first | with_reducible assumption | omega | (simp only [World.heap_drewN, World.size_alloc, World.size_setCell, World.size_drew]; omega)), (by first | with_reducible assumption | omega | (simp only [World.heap_drewN, World.size_alloc, World.size_setCell, World.size_drew]; omega)), (by first | with_reducible assumption | omega | (simp only [World.heap_drewN, World.size_alloc, World.size_setCell, World.size_drew]; omega)), (by first | with_reducible assumption | omega | (simp only [World.heap_drewN, World.size_alloc, World.size_setCell, World.size_drew]; omega)), (by first | with_reducible assumption | go_simp), (by first | with_reducible assumption | go_simp), (by first | with_reducible assumption | go_simp), (by first | with_reducible assumption | go_simp), (by first | with_reducible assumption | go_simp), (by first | with_reducible assumption | go_simp), (by first | with_reducible assumption | go_simp), (by first | with_reducible assumption | go_simp), (by first | with_reducible assumption | go_simp), (by first | with_reducible assumption | go_simp), (by first | with_reducible assumption | go_simp), (by first | with_reducible assumption | go_simp), (by first | with_reducible assumption | go_simp), (by first | with_reducible assumption | go_simp), (by first | with_reducible assumption | go_simp), (by first | with_reducible assumption | go_simp), (by first | with_reducible assumption | go_simp), (by first | with_reducible assumption | go_simp), (by first | with_reducible assumption | go_simp), (by first | with_reducible assumption | go_simp), (by first | with_reducible assumption | go_simp), (by first | with_reducible assumption | go_simp), (by first | with_reducible assumption | go_simp), (by first | with_reducible assumption | go_simp), (by first | with_reducible assumption | go_simp), (by first | with_reducible assumption | go_simp), (by first | with_reducible assumption | go_simp), (by first | with_reducible assumption | go_simp), (by first | with_reducible assumption | go_simp), (by first | with_reducible assumption | go_simp)⟩
                      · skip
                        subst e2 e3
                        clear h9
                        go_wp2_with fail
                        go_meet
                        exact ⟨trivial, (by repeat (first | with_reducible exact hB16 | with_reducible exact Below.refl _ _ | with_reducible refine below_set ?_ (by first | omega | (dsimp only; omega)) _ | with_reducible refine balloc ?_ _ | with_reducible refine Below.drew ?_ | with_reducible refine below_drewN ?_ _ | exact hB16 | exact Below.refl _ _ | refine balloc ?_ _ | refine Below.drew ?_ | refine below_drewN ?_ _ | refine below_set ?_ (by first | omega | (dsimp only; omega)) _)), (by first | with_reducible assumption | omega | (simp only [World.heap_drewN, World.size_alloc, World.size_setCell, World.size_drew]; omega)), (by first | with_reducible assumption | omega | (simp only [World.heap_drewN, World.size_alloc, World.size_setCell, World.size_drew]; omega)), (by first | with_reducible assumption | omega | (simp only [World.heap_drewN, World.size_alloc, World.size_setCell, World.size_drew]; omega)), (by first | with_reducible assumption | omega | (simp only [World.heap_drewN, World.size_alloc, World.size_setCell, World.size_drew]; omega)), (by first | with_reducible assumption | omega | (simp only [World.heap_drewN, World.size_alloc, World.size_setCell, World.size_drew]; omega)), (by first | with_reducible assumption | omega | (simp only [World.heap_drewN, World.size_alloc, World.size_setCell, World.size_drew]; omega)), (by first | with_reducible assumption | go_simp), (by first | with_reducible assumption | go_simp), (by first | with_reducible assumption | go_simp), (by first | with_reducible assumption | go_simp), (by first | with_reducible assumption | go_simp), (by first | with_reducible assumption | go_simp), (by first | with_reducible assumption | go_simp), (by first | with_reducible assumption | go_simp), (by first | with_reducible assumption | go_simp), (by first | with_reducible assumption | go_simp), (by first | with_reducible assumption | go_simp), (by first | with_reducible assumption | go_simp), (by first | with_reducible assumption | go_simp), (by first | with_reducible assumption | go_simp), (by first | with_reducible assumption | go_simp), (by first | with_reducible assumption | go_simp), (by first | with_reducible assumption | go_simp), (by first | with_reducible assumption | go_simp), (by first | with_reducible assumption | go_simp), (by first | with_reducible assumption | go_simp), (by first | with_reducible assumption | go_simp), (by first | with_reducible assumption | go_simp), (by first | with_reducible assumption | go_simp), (by first | with_reducible assumption | go_simp), (by first | with_reducible assumption | go_simp), (by first | with_reducible assumption | go_simp), (by first | with_reducible assumption | go_simp), (by first | with_reducible assumption | go_simp), (by first | with_reducible assumption | go_simp), (by first | with_reducible assumption | go_simp)⟩
                    case rest =>
                      obtain ⟨w17, hwq⟩ : ∃ x, x = wc := ⟨_, rfl⟩
                      subst hwq
                      obtain ⟨-, hB17, s17_0, s17_1, s17_2, s17_3, s17_4, s17_5, m17_0_0, m17_0_1, m17_0_2, m17_1_0, m17_1_1, m17_1_2, m17_2_0, m17_2_1, m17_2_2, m17_2_3, m17_3_0, m17_3_1, m17_3_2, m17_3_3, m17_4_0, m17_4_1, m17_4_2, m17_4_3, m17_5_0, m17_5_1, m17_5_2, m17_5_3, y17_0_0, y17_0_1, y17_0_2, y17_0_3, y17_1_0, y17_1_1, y17_1_2, y17_1_3⟩ := hcut
                      clear m16_0_0 m16_0_1 m16_0_2 m16_1_0 m16_1_1 m16_1_2 m16_2_0 m16_2_1 m16_2_2 m16_2_3 m16_3_0 m16_3_1 m16_3_2 m16_3_3 m16_4_0 m16_4_1 m16_4_2 m16_4_3 m16_5_0 m16_5_1 m16_5_2 m16_5_3
                      clear hB16 s16_0 s16_1 s16_2 s16_3 s16_4 s16_5 y16_0_0 y16_0_1 y16_0_2 y16_0_3 y16_1_0 y16_1_1 y16_1_2 y16_1_3
                      clear h9
                      go_wp2_with fail
                      refine (kFill.out _ (hF.below (by repeat (first | with_reducible exact hB17 | with_reducible exact Below.refl _ _ | with_reducible refine below_set ?_ (by first | omega | (dsimp only; omega)) _ | with_reducible refine balloc ?_ _ | with_reducible refine Below.drew ?_ | with_reducible refine below_drewN ?_ _ | exact hB17 | exact Below.refl _ _ | refine balloc ?_ _ | refine Below.drew ?_ | refine below_drewN ?_ _ | refine below_set ?_ (by first | omega | (dsimp only; omega)) _)))).mono ?_; rintro e w18 ⟨rfl, hb⟩
                      obtain ⟨hc18, hf18⟩ := bcell hb
                      have z18 := hb.size
                      try simp only [World.size_alloc, World.size_setCell, World.size_drew] at z18
                      have s18_0 : w.heap.size < w18.heap.size := by omega
                      have s18_1 : w.heap.size + 1 < w18.heap.size := by omega
                      have s18_2 : w.heap.size + 1 + 1 < w18.heap.size := by omega
                      have s18_3 : w.heap.size + 1 + 1 + 1 < w18.heap.size := by omega
                      have s18_4 : w4.heap.size < w18.heap.size := by omega
                      have s18_5 : w6.heap.size < w18.heap.size := by omega
                      have hB18 : Below w.heap.size w w18 := below_seq (by repeat (first | with_reducible exact hB17 | with_reducible exact Below.refl _ _ | with_reducible refine below_set ?_ (by first | omega | (dsimp only; omega)) _ | with_reducible refine balloc ?_ _ | with_reducible refine Below.drew ?_ | with_reducible refine below_drewN ?_ _ | exact hB17 | exact Below.refl _ _ | refine balloc ?_ _ | refine Below.drew ?_ | refine below_drewN ?_ _ | refine below_set ?_ (by first | omega | (dsimp only; omega)) _)) hb
                      clear hb
                      have m18_0_0 : w18.cell? ⟨w.heap.size, 0, none⟩ = some (.int .i64 T.x) := by go_simp
                      have m18_0_1 : w18.cell? ⟨w.heap.size, 1, none⟩ = some (.int .i64 T.y) := by go_simp
                      have m18_0_2 : w18.cell? ⟨w.heap.size, 2, none⟩ = some (.bool T.far) := by go_simp
                      have m18_1_0 : w18.cell? ⟨w.heap.size + 1, 0, none⟩ = some (.int .i64 key.x) := by go_simp
                      have m18_1_1 : w18.cell? ⟨w.heap.size + 1, 1, none⟩ = some (.int .i64 key.y) := by go_simp
                      have m18_1_2 : w18.cell? ⟨w.heap.size + 1, 2, none⟩ = some (.bool key.far) := by go_simp
                      have m18_2_0 : w18.cell? ⟨w.heap.size + 1 + 1, 0, none⟩ = some (.int .i64 P.x) := by go_simp
                      have m18_2_1 : w18.cell? ⟨w.heap.size + 1 + 1, 1, none⟩ = some (.int .i64 P.y) := by go_simp
                      have m18_2_2 : w18.cell? ⟨w.heap.size + 1 + 1, 2, none⟩ = some (.bool P.far) := by go_simp
                      have m18_2_3 : w18.cell? ⟨w.heap.size + 1 + 1, 3, none⟩ = some (.int .i64 PS) := by go_simp
                      have m18_3_0 : w18.cell? ⟨w.heap.size + 1 + 1 + 1, 0, none⟩ = some (.int .i64 Q.x) := by go_simp
                      have m18_3_1 : w18.cell? ⟨w.heap.size + 1 + 1 + 1, 1, none⟩ = some (.int .i64 Q.y) := by go_simp
                      have m18_3_2 : w18.cell? ⟨w.heap.size + 1 + 1 + 1, 2, none⟩ = some (.bool Q.far) := by go_simp
                      have m18_3_3 : w18.cell? ⟨w.heap.size + 1 + 1 + 1, 3, none⟩ = some (.int .i64 QS) := by go_simp
                      have m18_4_0 : w18.cell? ⟨w4.heap.size, 0, none⟩ = some (.int .i64 Z2.x) := by go_simp
                      have m18_4_1 : w18.cell? ⟨w4.heap.size, 1, none⟩ = some (.int .i64 Z2.y) := by go_simp
                      have m18_4_2 : w18.cell? ⟨w4.heap.size, 2, none⟩ = some (.bool Z2.far) := by go_simp
                      have m18_4_3 : w18.cell? ⟨w4.heap.size, 3, none⟩ = some (.int .i64 Y2) := by go_simp
                      have m18_5_0 : w18.cell? ⟨w6.heap.size, 0, none⟩ = some (.int .i64 Z.x) := by go_simp
                      have m18_5_1 : w18.cell? ⟨w6.heap.size, 1, none⟩ = some (.int .i64 Z.y) := by go_simp
                      have m18_5_2 : w18.cell? ⟨w6.heap.size, 2, none⟩ = some (.bool Z.far) := by go_simp
                      have m18_5_3 : w18.cell? ⟨w6.heap.size, 3, none⟩ = some (.int .i64 Y) := by go_simp
                      clear m17_0_0 m17_0_1 m17_0_2 m17_1_0 m17_1_1 m17_1_2 m17_2_0 m17_2_1 m17_2_2 m17_2_3 m17_3_0 m17_3_1 m17_3_2 m17_3_3 m17_4_0 m17_4_1 m17_4_2 m17_4_3 m17_5_0 m17_5_1 m17_5_2 m17_5_3
                      clear hc18
                      have y18_0_0 : w18.frozen? ⟨w4.heap.size, 0, none⟩ = false := by go_simp
                      have y18_0_1 : w18.frozen? ⟨w4.heap.size, 1, none⟩ = false := by go_simp
                      have y18_0_2 : w18.frozen? ⟨w4.heap.size, 2, none⟩ = false := by go_simp
                      have y18_0_3 : w18.frozen? ⟨w4.heap.size, 3, none⟩ = false := by go_simp
                      have y18_1_0 : w18.frozen? ⟨w6.heap.size, 0, none⟩ = false := by go_simp
                      have y18_1_1 : w18.frozen? ⟨w6.heap.size, 1, none⟩ = false := by go_simp
                      have y18_1_2 : w18.frozen? ⟨w6.heap.size, 2, none⟩ = false := by go_simp
                      have y18_1_3 : w18.frozen? ⟨w6.heap.size, 3, none⟩ = false := by go_simp
                      clear hB17 s17_0 s17_1 s17_2 s17_3 s17_4 s17_5 y17_0_0 y17_0_1 y17_0_2 y17_0_3 y17_1_0 y17_1_1 y17_1_2 y17_1_3 hf18
                      go_wp2_with fail
                      refine (error_same (errV E6) E6 _ (hE.below (by repeat (first | with_reducible exact hB18 | with_reducible exact Below.refl _ _ | with_reducible refine below_set ?_ (by first | omega | (dsimp only; omega)) _ | with_reducible refine balloc ?_ _ | with_reducible refine Below.drew ?_ | with_reducible refine below_drewN ?_ _ | exact hB18 | exact Below.refl _ _ | refine balloc ?_ _ | refine Below.drew ?_ | refine below_drewN ?_ _ | refine below_set ?_ (by first | omega | (dsimp only; omega)) _))) (Lib.hid rfl)).mono ?_; rintro e w19 ⟨rfl, hb⟩
                      obtain ⟨hc19, hf19⟩ := bcell hb
                      have z19 := hb.size
                      try simp only [World.size_alloc, World.size_setCell, World.size_drew] at z19
                      have s19_0 : w.heap.size < w19.heap.size := by omega
                      have s19_1 : w.heap.size + 1 < w19.heap.size := by omega
                      have s19_2 : w.heap.size + 1 + 1 < w19.heap.size := by omega
                      have s19_3 : w.heap.size + 1 + 1 + 1 < w19.heap.size := by omega
                      have s19_4 : w4.heap.size < w19.heap.size := by omega
                      have s19_5 : w6.heap.size < w19.heap.size := by omega
                      have hB19 : Below w.heap.size w w19 := below_seq (by repeat (first | with_reducible exact hB18 | with_reducible exact Below.refl _ _ | with_reducible refine below_set ?_ (by first | omega | (dsimp only; omega)) _ | with_reducible refine balloc ?_ _ | with_reducible refine Below.drew ?_ | with_reducible refine below_drewN ?_ _ | exact hB18 | exact Below.refl _ _ | refine balloc ?_ _ | refine Below.drew ?_ | refine below_drewN ?_ _ | refine below_set ?_ (by first | omega | (dsimp only; omega)) _)) hb
                      clear hb
                      have m19_0_0 : w19.cell? ⟨w.heap.size, 0, none⟩ = some (.int .i64 T.x) := by go_simp
                      have m19_0_1 : w19.cell? ⟨w.heap.size, 1, none⟩ = some (.int .i64 T.y) := by go_simp
                      have m19_0_2 : w19.cell? ⟨w.heap.size, 2, none⟩ = some (.bool T.far) := by go_simp
                      have m19_1_0 : w19.cell? ⟨w.heap.size + 1, 0, none⟩ = some (.int .i64 key.x) := by go_simp
                      have m19_1_1 : w19.cell? ⟨w.heap.size + 1, 1, none⟩ = some (.int .i64 key.y) := by go_simp
                      have m19_1_2 : w19.cell? ⟨w.heap.size + 1, 2, none⟩ = some (.bool key.far) := by go_simp
                      have m19_2_0 : w19.cell? ⟨w.heap.size + 1 + 1, 0, none⟩ = some (.int .i64 P.x) := by go_simp
                      have m19_2_1 : w19.cell? ⟨w.heap.size + 1 + 1, 1, none⟩ = some (.int .i64 P.y) := by go_simp
                      have m19_2_2 : w19.cell? ⟨w.heap.size + 1 + 1, 2, none⟩ = some (.bool P.far) := by go_simp
                      have m19_2_3 : w19.cell? ⟨w.heap.size + 1 + 1, 3, none⟩ = some (.int .i64 PS) := by go_simp
                      have m19_3_0 : w19.cell? ⟨w.heap.size + 1 + 1 + 1, 0, none⟩ = some (.int .i64 Q.x) := by go_simp
                      have m19_3_1 : w19.cell? ⟨w.heap.size + 1 + 1 + 1, 1, none⟩ = some (.int .i64 Q.y) := by go_simp
                      have m19_3_2 : w19.cell? ⟨w.heap.size + 1 + 1 + 1, 2, none⟩ = some (.bool Q.far) := by go_simp
                      have m19_3_3 : w19.cell? ⟨w.heap.size + 1 + 1 + 1, 3, none⟩ = some (.int .i64 QS) := by go_simp
                      have m19_4_0 : w19.cell? ⟨w4.heap.size, 0, none⟩ = some (.int .i64 Z2.x) := by go_simp
                      have m19_4_1 : w19.cell? ⟨w4.heap.size, 1, none⟩ = some (.int .i64 Z2.y) := by go_simp
                      have m19_4_2 : w19.cell? ⟨w4.heap.size, 2, none⟩ = some (.bool Z2.far) := by go_simp
                      have m19_4_3 : w19.cell? ⟨w4.heap.size, 3, none⟩ = some (.int .i64 Y2) := by go_simp
                      have m19_5_0 : w19.cell? ⟨w6.heap.size, 0, none⟩ = some (.int .i64 Z2.x) := by go_simp
                      have m19_5_1 : w19.cell? ⟨w6.heap.size, 1, none⟩ = some (.int .i64 Z2.y) := by go_simp
                      have m19_5_2 : w19.cell? ⟨w6.heap.size, 2, none⟩ = some (.bool Z2.far) := by go_simp
                      have m19_5_3 : w19.cell? ⟨w6.heap.size, 3, none⟩ = some (.int .i64 Y2) := by go_simp
                      clear m18_0_0 m18_0_1 m18_0_2 m18_1_0 m18_1_1 m18_1_2 m18_2_0 m18_2_1 m18_2_2 m18_2_3 m18_3_0 m18_3_1 m18_3_2 m18_3_3 m18_4_0 m18_4_1 m18_4_2 m18_4_3 m18_5_0 m18_5_1 m18_5_2 m18_5_3
                      clear hc19
                      clear z18 hB18 s18_0 s18_1 s18_2 s18_3 s18_4 s18_5 y18_0_0 y18_0_1 y18_0_2 y18_0_3 y18_1_0 y18_1_1 y18_1_2 y18_1_3 hf19
                      go_wp2_with fail
                      refine (refSpot_e P E5 _ jE5).mono ?_; rintro e w20 ⟨rfl, hb⟩
                      obtain ⟨hc20, hf20⟩ := bcell hb
                      have z20 := hb.size
                      try simp only [World.size_alloc, World.size_setCell, World.size_drew] at z20
                      have s20_0 : w.heap.size < w20.heap.size := by omega
                      have s20_1 : w.heap.size + 1 < w20.heap.size := by omega
                      have s20_2 : w.heap.size + 1 + 1 < w20.heap.size := by omega
                      have s20_3 : w.heap.size + 1 + 1 + 1 < w20.heap.size := by omega
                      have s20_4 : w4.heap.size < w20.heap.size := by omega
                      have s20_5 : w6.heap.size < w20.heap.size := by omega
                      have hB20 : Below w.heap.size w w20 := below_seq (by repeat (first | with_reducible exact hB19 | with_reducible exact Below.refl _ _ | with_reducible refine below_set ?_ (by first | omega | (dsimp only; omega)) _ | with_reducible refine balloc ?_ _ | with_reducible refine Below.drew ?_ | with_reducible refine below_drewN ?_ _ | exact hB19 | exact Below.refl _ _ | refine balloc ?_ _ | refine Below.drew ?_ | refine below_drewN ?_ _ | refine below_set ?_ (by first | omega | (dsimp only; omega)) _)) hb
                      clear hb
                      have m20_0_0 : w20.cell? ⟨w.heap.size, 0, none⟩ = some (.int .i64 T.x) := by go_simp
                      have m20_0_1 : w20.cell? ⟨w.heap.size, 1, none⟩ = some (.int .i64 T.y) := by go_simp
                      have m20_0_2 : w20.cell? ⟨w.heap.size, 2, none⟩ = some (.bool T.far) := by go_simp
                      have m20_1_0 : w20.cell? ⟨w.heap.size + 1, 0, none⟩ = some (.int .i64 key.x) := by go_simp
                      have m20_1_1 : w20.cell? ⟨w.heap.size + 1, 1, none⟩ = some (.int .i64 key.y) := by go_simp
                      have m20_1_2 : w20.cell? ⟨w.heap.size + 1, 2, none⟩ = some (.bool key.far) := by go_simp
                      have m20_2_0 : w20.cell? ⟨w.heap.size + 1 + 1, 0, none⟩ = some (.int .i64 P.x) := by go_simp
                      have m20_2_1 : w20.cell? ⟨w.heap.size + 1 + 1, 1, none⟩ = some (.int .i64 P.y) := by go_simp
                      have m20_2_2 : w20.cell? ⟨w.heap.size + 1 + 1, 2, none⟩ = some (.bool P.far) := by go_simp
                      have m20_2_3 : w20.cell? ⟨w.heap.size + 1 + 1, 3, none⟩ = some (.int .i64 PS) := by go_simp
                      have m20_3_0 : w20.cell? ⟨w.heap.size + 1 + 1 + 1, 0, none⟩ = some (.int .i64 Q.x) := by go_simp
                      have m20_3_1 : w20.cell? ⟨w.heap.size + 1 + 1 + 1, 1, none⟩ = some (.int .i64 Q.y) := by go_simp
                      have m20_3_2 : w20.cell? ⟨w.heap.size + 1 + 1 + 1, 2, none⟩ = some (.bool Q.far) := by go_simp
                      have m20_3_3 : w20.cell? ⟨w.heap.size + 1 + 1 + 1, 3, none⟩ = some (.int .i64 QS) := by go_simp
                      clear m19_0_0 m19_0_1 m19_0_2 m19_1_0 m19_1_1 m19_1_2 m19_2_0 m19_2_1 m19_2_2 m19_2_3 m19_3_0 m19_3_1 m19_3_2 m19_3_3 m19_4_0 m19_4_1 m19_4_2 m19_4_3 m19_5_0 m19_5_1 m19_5_2 m19_5_3
                      clear hc20
                      clear z19 hB19 s19_0 s19_1 s19_2 s19_3 s19_4 s19_5 hf20
                      go_upto_if 166 with fail
                      go_cut [17] from 166 to 169 (fun s17 wx => s17 = .int .i64 E7 ∧ Below w.heap.size w wx ∧ w.heap.size < wx.heap.size ∧ w.heap.size + 1 < wx.heap.size ∧ w.heap.size + 1 + 1 < wx.heap.size ∧ w.heap.size + 1 + 1 + 1 < wx.heap.size ∧ w4.heap.size < wx.heap.size ∧ w6.heap.size < wx.heap.size ∧ wx.cell? ⟨w.heap.size, 0, none⟩ = some (.int .i64 T.x) ∧ wx.cell? ⟨w.heap.size, 1, none⟩ = some (.int .i64 T.y) ∧ wx.cell? ⟨w.heap.size, 2, none⟩ = some (.bool T.far) ∧ wx.cell? ⟨w.heap.size + 1, 0, none⟩ = some (.int .i64 key.x) ∧ wx.cell? ⟨w.heap.size + 1, 1, none⟩ = some (.int .i64 key.y) ∧ wx.cell? ⟨w.heap.size + 1, 2, none⟩ = some (.bool key.far) ∧ wx.cell? ⟨w.heap.size + 1 + 1, 0, none⟩ = some (.int .i64 P.x) ∧ wx.cell? ⟨w.heap.size + 1 + 1, 1, none⟩ = some (.int .i64 P.y) ∧ wx.cell? ⟨w.heap.size + 1 + 1, 2, none⟩ = some (.bool P.far) ∧ wx.cell? ⟨w.heap.size + 1 + 1, 3, none⟩ = some (.int .i64 PS) ∧ wx.cell? ⟨w.heap.size + 1 + 1 + 1, 0, none⟩ = some (.int .i64 Q.x) ∧ wx.cell? ⟨w.heap.size + 1 + 1 + 1, 1, none⟩ = some (.int .i64 Q.y) ∧ wx.cell? ⟨w.heap.size + 1 + 1 + 1, 2, none⟩ = some (.bool Q.far) ∧ wx.cell? ⟨w.heap.size + 1 + 1 + 1, 3, none⟩ = some (.int .i64 QS))
                      case first =>
                        rcases g1.out with ⟨e1, e2⟩ | ⟨e1, e2⟩
                        · subst e1
                          replace e2 := Lib.hid e2
                          clear g1
                          go_wp2_with fail
                          refine (refSpot_e Q E7 _ e2).mono ?_; rintro e w21 ⟨rfl, hb⟩
                          obtain ⟨hc21, hf21⟩ := bcell hb
                          have z21 := hb.size
                          try simp only [World.size_alloc, World.size_setCell, World.size_drew] at z21
                          have s21_0 : w.heap.size < w21.heap.size := by omega
                          have s21_1 : w.heap.size + 1 < w21.heap.size := by omega
                          have s21_2 : w.heap.size + 1 + 1 < w21.heap.size := by omega
                          have s21_3 : w.heap.size + 1 + 1 + 1 < w21.heap.size := by omega
                          have s21_4 : w4.heap.size < w21.heap.size := by omega
                          have s21_5 : w6.heap.size < w21.heap.size := by omega
                          have hB21 : Below w.heap.size w w21 := below_seq (by repeat (first | with_reducible exact hB20 | with_reducible exact Below.refl _ _ | with_reducible refine below_set ?_ (by first | omega | (dsimp only; omega)) _ | with_reducible refine balloc ?_ _ | with_reducible refine Below.drew ?_ | with_reducible refine below_drewN ?_ _ | exact hB20 | exact Below.refl _ _ | refine balloc ?_ _ | refine Below.drew ?_ | refine below_drewN ?_ _ | refine below_set ?_ (by first | omega | (dsimp only; omega)) _)) hb
                          clear hb
                          have m21_0_0 : w21.cell? ⟨w.heap.size, 0, none⟩ = some (.int .i64 T.x) := by go_simp
                          have m21_0_1 : w21.cell? ⟨w.heap.size, 1, none⟩ = some (.int .i64 T.y) := by go_simp
                          have m21_0_2 : w21.cell? ⟨w.heap.size, 2, none⟩ = some (.bool T.far) := by go_simp
                          have m21_1_0 : w21.cell? ⟨w.heap.size + 1, 0, none⟩ = some (.int .i64 key.x) := by go_simp
                          have m21_1_1 : w21.cell? ⟨w.heap.size + 1, 1, none⟩ = some (.int .i64 key.y) := by go_simp
                          have m21_1_2 : w21.cell? ⟨w.heap.size + 1, 2, none⟩ = some (.bool key.far) := by go_simp
                          have m21_2_0 : w21.cell? ⟨w.heap.size + 1 + 1, 0, none⟩ = some (.int .i64 P.x) := by go_simp
                          have m21_2_1 : w21.cell? ⟨w.heap.size + 1 + 1, 1, none⟩ = some (.int .i64 P.y) := by go_simp
                          have m21_2_2 : w21.cell? ⟨w.heap.size + 1 + 1, 2, none⟩ = some (.bool P.far) := by go_simp
                          have m21_2_3 : w21.cell? ⟨w.heap.size + 1 + 1, 3, none⟩ = some (.int .i64 PS) := by go_simp
                          have m21_3_0 : w21.cell? ⟨w.heap.size + 1 + 1 + 1, 0, none⟩ = some (.int .i64 Q.x) := by go_simp
                          have m21_3_1 : w21.cell? ⟨w.heap.size + 1 + 1 + 1, 1, none⟩ = some (.int .i64 Q.y) := by go_simp
                          have m21_3_2 : w21.cell? ⟨w.heap.size + 1 + 1 + 1, 2, none⟩ = some (.bool Q.far) := by go_simp
                          have m21_3_3 : w21.cell? ⟨w.heap.size + 1 + 1 + 1, 3, none⟩ = some (.int .i64 QS) := by go_simp
                          clear m20_0_0 m20_0_1 m20_0_2 m20_1_0 m20_1_1 m20_1_2 m20_2_0 m20_2_1 m20_2_2 m20_2_3 m20_3_0 m20_3_1 m20_3_2 m20_3_3
                          clear hc21
                          clear z20 hB20 s20_0 s20_1 s20_2 s20_3 s20_4 s20_5 hf21
                          go_wp2_with fail
                          go_meet
                          exact ⟨rfl, (by repeat (first | with_reducible exact hB21 | with_reducible exact Below.refl _ _ | with_reducible refine below_set ?_ (by first | omega | (dsimp only; omega)) _ | with_reducible refine balloc ?_ _ | with_reducible refine Below.drew ?_ | with_reducible refine below_drewN ?_ _ | exact hB21 | exact Below.refl _ _ | refine balloc ?_ _ | refine Below.drew ?_ | refine below_drewN ?_ _ | refine below_set ?_ (by first | omega | (dsimp only; omega)) _)), (by first | with_reducible assumption | omega | (simp only [World.heap_drewN, World.size_alloc, World.size_setCell, World.size_drew]; omega)), (by first | with_reducible assumption | omega | (simp only [World.heap_drewN, World.size_alloc, World.size_setCell, World.size_drew]; omega)), (by first | with_reducible assumption | omega | (simp only [World.heap_drewN, World.size_alloc, World.size_setCell, World.size_drew]; omega)), (by first | with_reducible assumption | omega | (simp only [World.heap_drewN, World.size_alloc, World.size_setCell, World.size_drew]; omega)), (by first | with_reducible assumption | omega | (simp only [World.heap_drewN, World.size_alloc, World.size_setCell, World.size_drew]; omega)), (by first | with_reducible assumption | omega | (simp only [World.heap_drewN, World.size_alloc, World.size_setCell, World.size_drew]; omega)), (by first | with_reducible assumption | go_simp), (by first | with_reducible assumption | go_simp), (by first | with_reducible assumption | go_simp), (by first | with_reducible assumption | go_simp), (by first | with_reducible assumption | go_simp), (by first | with_reducible assumption | go_simp), (by first | with_reducible assumption | go_simp), (by first | with_reducible assumption | go_simp), (by first | with_reducible assumption | go_simp), (by first | with_reducible assumption | go_simp), (by first | with_reducible assumption | go_simp), (by first | with_reducible assumption | go_simp), (by first | with_reducible assumption | go_simp), (by first | with_reducible assumption | go_simp)⟩
                        · skip
                          subst e2
                          clear g1
                          go_wp2_with fail
                          go_meet
                          exact ⟨rfl, (by repeat (first | with_reducible exact hB20 | with_reducible exact Below.refl _ _ | with_reducible refine below_set ?_ (by first | omega | (dsimp only; omega)) _ | with_reducible refine balloc ?_ _ | with_reducible refine Below.drew ?_ | with_reducible refine below_drewN ?_ _ | exact hB20 | exact Below.refl _ _ | refine balloc ?_ _ | refine Below.drew ?_ | refine below_drewN ?_ _ | refine below_set ?_ (by first | omega | (dsimp only; omega)) _)), (by first | with_reducible assumption | omega | (simp only [World.heap_drewN, World.size_alloc, World.size_setCell, World.size_drew]; omega)), (by first | with_reducible assumption | omega | (simp only [World.heap_drewN, World.size_alloc, World.size_setCell, World.size_drew]; omega)), (by first | with_reducible assumption | omega | (simp only [World.heap_drewN, World.size_alloc, World.size_setCell, World.size_drew]; omega)), (by first | with_reducible assumption | omega | (simp only [World.heap_drewN, World.size_alloc, World.size_setCell, World.size_drew]; omega)), (by first | with_reducible assumption | omega | (simp only [World.heap_drewN, World.size_alloc, World.size_setCell, World.size_drew]; omega)), (by first | with_reducible assumption | omega | (simp only [World.heap_drewN, World.size_alloc, World.size_setCell, World.size_drew]; omega)), (by first | with_reducible assumption | go_simp), (by first | with_reducible assumption | go_simp), (by first | with_reducible assumption | go_simp), (by first | with_reducible assumption | go_simp), (by first | with_reducible assumption | go_simp), (by first | with_reducible assumption | go_simp), (by first | with_reducible assumption | go_simp), (by first | with_reducible assumption | go_simp), (by first | with_reducible assumption | go_simp), (by first | with_reducible assumption | go_simp), (by first | with_reducible assumption | go_simp), (by first | with_reducible assumption | go_simp), (by first | with_reducible assumption | go_simp), (by first | with_reducible assumption | go_simp)⟩
                      case rest =>
                        obtain ⟨w21, hwq⟩ : ∃ x, x = wc := ⟨_, rfl⟩
                        subst hwq
                        obtain ⟨rfl, hB21, s21_0, s21_1, s21_2, s21_3, s21_4, s21_5, m21_0_0, m21_0_1, m21_0_2, m21_1_0, m21_1_1, m21_1_2, m21_2_0, m21_2_1, m21_2_2, m21_2_3, m21_3_0, m21_3_1, m21_3_2, m21_3_3⟩ := hcut
                        clear m20_0_0 m20_0_1 m20_0_2 m20_1_0 m20_1_1 m20_1_2 m20_2_0 m20_2_1 m20_2_2 m20_2_3 m20_3_0 m20_3_1 m20_3_2 m20_3_3
                        clear z20 hB20 s20_0 s20_1 s20_2 s20_3 s20_4 s20_5
                        clear g1
                        go_wp2_with fail
                        refine (rRest_b QS B8 _ jB8).mono ?_; rintro e w' ⟨rfl, rfl⟩
                        go_upto_region 36 with fail
                        go_cut [182] from 173 to 181 (fun s182 wx => s182 = .bool B9 ∧ Below w.heap.size w wx ∧ w.heap.size < wx.heap.size ∧ w.heap.size + 1 < wx.heap.size ∧ w.heap.size + 1 + 1 < wx.heap.size ∧ w.heap.size + 1 + 1 + 1 < wx.heap.size ∧ w4.heap.size < wx.heap.size ∧ w6.heap.size < wx.heap.size ∧ wx.cell? ⟨w.heap.size, 0, none⟩ = some (.int .i64 T.x) ∧ wx.cell? ⟨w.heap.size, 1, none⟩ = some (.int .i64 T.y) ∧ wx.cell? ⟨w.heap.size, 2, none⟩ = some (.bool T.far) ∧ wx.cell? ⟨w.heap.size + 1, 0, none⟩ = some (.int .i64 key.x) ∧ wx.cell? ⟨w.heap.size + 1, 1, none⟩ = some (.int .i64 key.y) ∧ wx.cell? ⟨w.heap.size + 1, 2, none⟩ = some (.bool key.far) ∧ wx.cell? ⟨w.heap.size + 1 + 1, 0, none⟩ = some (.int .i64 P.x) ∧ wx.cell? ⟨w.heap.size + 1 + 1, 1, none⟩ = some (.int .i64 P.y) ∧ wx.cell? ⟨w.heap.size + 1 + 1, 2, none⟩ = some (.bool P.far) ∧ wx.cell? ⟨w.heap.size + 1 + 1, 3, none⟩ = some (.int .i64 PS) ∧ wx.cell? ⟨w.heap.size + 1 + 1 + 1, 0, none⟩ = some (.int .i64 Q.x) ∧ wx.cell? ⟨w.heap.size + 1 + 1 + 1, 1, none⟩ = some (.int .i64 Q.y) ∧ wx.cell? ⟨w.heap.size + 1 + 1 + 1, 2, none⟩ = some (.bool Q.far) ∧ wx.cell? ⟨w.heap.size + 1 + 1 + 1, 3, none⟩ = some (.int .i64 QS))
                        case first =>
                          rcases g2.out with ⟨e1, e2, e3, e4⟩ | ⟨e1, e2, e3, e4⟩ | ⟨e1, e2, e3⟩ | ⟨e1, e2⟩
                          · subst e1 e2 e3 e4
                            clear g2
                            go_wp2_with fail
                            go_meet
                            exact ⟨rfl, (by repeat (first | with_reducible exact hB21 | with_reducible exact Below.refl _ _ | with_reducible refine below_set ?_ (by first | omega | (dsimp only; omega)) _ | with_reducible refine balloc ?_ _ | with_reducible refine Below.drew ?_ | with_reducible refine below_drewN ?_ _ | exact hB21 | exact Below.refl _ _ | refine balloc ?_ _ | refine Below.drew ?_ | refine below_drewN ?_ _ | refine below_set ?_ (by first | omega | (dsimp only; omega)) _)), (by first | with_reducible assumption | omega | (simp only [World.heap_drewN, World.size_alloc, World.size_setCell, World.size_drew]; omega)), (by first | with_reducible assumption | omega | (simp only [World.heap_drewN, World.size_alloc, World.size_setCell, World.size_drew]; omega)), (by first | with_reducible assumption | omega | (simp only [World.heap_drewN, World.size_alloc, World.size_setCell, World.size_drew]; omega)), (by first | with_reducible assumption | omega | (simp only [World.heap_drewN, World.size_alloc, World.size_setCell, World.size_drew]; omega)), (by first | with_reducible assumption | omega | (simp only [World.heap_drewN, World.size_alloc, World.size_setCell, World.size_drew]; omega)), (by first | with_reducible assumption | omega | (simp only [World.heap_drewN, World.size_alloc, World.size_setCell, World.size_drew]; omega)), (by first | with_reducible assumption | go_simp), (by first | with_reducible assumption | go_simp), (by first | with_reducible assumption | go_simp), (by first | with_reducible assumption | go_simp), (by first | with_reducible assumption | go_simp), (by first | with_reducible assumption | go_simp), (by first | with_reducible assumption | go_simp), (by first | with_reducible assumption | go_simp), (by first | with_reducible assumption | go_simp), (by first | with_reducible assumption | go_simp), (by first | with_reducible assumption | go_simp), (by first | with_reducible assumption | go_simp), (by first | with_reducible assumption | go_simp), (by first | with_reducible assumption | go_simp)⟩
                          · skip
                            subst e1 e2 e3 e4
                            clear g2
                            go_wp2_with fail
                            go_meet
                            exact ⟨rfl, (by repeat (first | with_reducible exact hB21 | with_reducible exact Below.refl _ _ | with_reducible refine below_set ?_ (by first | omega | (dsimp only; omega)) _ | with_reducible refine balloc ?_ _ | with_reducible refine Below.drew ?_ | with_reducible refine below_drewN ?_ _ | exact hB21 | exact Below.refl _ _ | refine balloc ?_ _ | refine Below.drew ?_ | refine below_drewN ?_ _ | refine below_set ?_ (by first | omega | (dsimp only; omega)) _)), (by first | with_reducible assumption | omega | (simp only [World.heap_drewN, World.size_alloc, World.size_setCell, World.size_drew]; omega)), (by first | with_reducible assumption | omega | (simp only [World.heap_drewN, World.size_alloc, World.size_setCell, World.size_drew]; omega)), (by first | with_reducible assumption | omega | (simp only [World.heap_drewN, World.size_alloc, World.size_setCell, World.size_drew]; omega)), (by first | with_reducible assumption | omega | (simp only [World.heap_drewN, World.size_alloc, World.size_setCell, World.size_drew]; omega)), (by first | with_reducible assumption | omega | (simp only [World.heap_drewN, World.size_alloc, World.size_setCell, World.size_drew]; omega)), (by first | with_reducible assumption | omega | (simp only [World.heap_drewN, World.size_alloc, World.size_setCell, World.size_drew]; omega)), (by first | with_reducible assumption | go_simp), (by first | with_reducible assumption | go_simp), (by first | with_reducible assumption | go_simp), (by first | with_reducible assumption | go_simp), (by first | with_reducible assumption | go_simp), (by first | with_reducible assumption | go_simp), (by first | with_reducible assumption | go_simp), (by first | with_reducible assumption | go_simp), (by first | with_reducible assumption | go_simp), (by first | with_reducible assumption | go_simp), (by first | with_reducible assumption | go_simp), (by first | with_reducible assumption | go_simp), (by first | with_reducible assumption | go_simp), (by first | with_reducible assumption | go_simp)⟩
                          · skip
                            subst e1 e2 e3
                            clear g2
                            go_wp2_with fail
                            go_meet
                            exact ⟨rfl, (by repeat (first | with_reducible exact hB21 | with_reducible exact Below.refl _ _ | with_reducible refine below_set ?_ (by first | omega | (dsimp only; omega)) _ | with_reducible refine balloc ?_ _ | with_reducible refine Below.drew ?_ | with_reducible refine below_drewN ?_ _ | exact hB21 | exact Below.refl _ _ | refine balloc ?_ _ | refine Below.drew ?_ | refine below_drewN ?_ _ | refine below_set ?_ (by first | omega | (dsimp only; omega)) _)), (by first | with_reducible assumption | omega | (simp only [World.heap_drewN, World.size_alloc, World.size_setCell, World.size_drew]; omega)), (by first | with_reducible assumption | omega | (simp only [World.heap_drewN, World.size_alloc, World.size_setCell, World.size_drew]; omega)), (by first | with_reducible assumption | omega | (simp only [World.heap_drewN, World.size_alloc, World.size_setCell, World.size_drew]; omega)), (by first | with_reducible assumption | omega | (simp only [World.heap_drewN, World.size_alloc, World.size_setCell, World.size_drew]; omega)), (by first | with_reducible assumption | omega | (simp only [World.heap_drewN, World.size_alloc, World.size_setCell, World.size_drew]; omega)), (by first | with_reducible assumption | omega | (simp only [World.heap_drewN, World.size_alloc, World.size_setCell, World.size_drew]; omega)), (by first | with_reducible assumption | go_simp), (by first | with_reducible assumption | go_simp), (by first | with_reducible assumption | go_simp), (by first | with_reducible assumption | go_simp), (by first | with_reducible assumption | go_simp), (by first | with_reducible assumption | go_simp), (by first | with_reducible assumption | go_simp), (by first | with_reducible assumption | go_simp), (by first | with_reducible assumption | go_simp), (by first | with_reducible assumption | go_simp), (by first | with_reducible assumption | go_simp), (by first | with_reducible assumption | go_simp), (by first | with_reducible assumption | go_simp), (by first | with_reducible assumption | go_simp)⟩
                          · skip
                            subst e2
                            clear g2
                            go_wp2_with fail
                            go_meet
                            exact ⟨rfl, (by repeat (first | with_reducible exact hB21 | with_reducible exact Below.refl _ _ | with_reducible refine below_set ?_ (by first | omega | (dsimp only; omega)) _ | with_reducible refine balloc ?_ _ | with_reducible refine Below.drew ?_ | with_reducible refine below_drewN ?_ _ | exact hB21 | exact Below.refl _ _ | refine balloc ?_ _ | refine Below.drew ?_ | refine below_drewN ?_ _ | refine below_set ?_ (by first | omega | (dsimp only; omega)) _)), (by first | with_reducible assumption | omega | (simp only [World.heap_drewN, World.size_alloc, World.size_setCell, World.size_drew]; omega)), (by first | with_reducible assumption | omega | (simp only [World.heap_drewN, World.size_alloc, World.size_setCell, World.size_drew]; omega)), (by first | with_reducible assumption | omega | (simp only [World.heap_drewN, World.size_alloc, World.size_setCell, World.size_drew]; omega)), (by first | with_reducible assumption | omega | (simp only [World.heap_drewN, World.size_alloc, World.size_setCell, World.size_drew]; omega)), (by first | with_reducible assumption | omega | (simp only [World.heap_drewN, World.size_alloc, World.size_setCell, World.size_drew]; omega)), (by first | with_reducible assumption | omega | (simp only [World.heap_drewN, World.size_alloc, World.size_setCell, World.size_drew]; omega)), (by first | with_reducible assumption | go_simp), (by first | with_reducible assumption | go_simp), (by first | with_reducible assumption | go_simp), (by first | with_reducible assumption | go_simp), (by first | with_reducible assumption | go_simp), (by first | with_reducible assumption | go_simp), (by first | with_reducible assumption | go_simp), (by first | with_reducible assumption | go_simp), (by first | with_reducible assumption | go_simp), (by first | with_reducible assumption | go_simp), (by first | with_reducible assumption | go_simp), (by first | with_reducible assumption | go_simp), (by first | with_reducible assumption | go_simp), (by first | with_reducible assumption | go_simp)⟩
                        case rest =>
                          obtain ⟨w22, hwq⟩ : ∃ x, x = wc := ⟨_, rfl⟩
                          subst hwq
                          obtain ⟨rfl, hB22, s22_0, s22_1, s22_2, s22_3, s22_4, s22_5, m22_0_0, m22_0_1, m22_0_2, m22_1_0, m22_1_1, m22_1_2, m22_2_0, m22_2_1, m22_2_2, m22_2_3, m22_3_0, m22_3_1, m22_3_2, m22_3_3⟩ := hcut
                          clear m21_0_0 m21_0_1 m21_0_2 m21_1_0 m21_1_1 m21_1_2 m21_2_0 m21_2_1 m21_2_2 m21_2_3 m21_3_0 m21_3_1 m21_3_2 m21_3_3
                          clear hB21 s21_0 s21_1 s21_2 s21_3 s21_4 s21_5
                          clear g2
                          go_upto_if 182 with fail
                          go_cut [17] from 183 to 183 (fun s17 wx => s17 = .int .i64 E8 ∧ Below w.heap.size w wx ∧ w.heap.size < wx.heap.size ∧ w.heap.size + 1 < wx.heap.size ∧ w.heap.size + 1 + 1 < wx.heap.size ∧ w.heap.size + 1 + 1 + 1 < wx.heap.size ∧ w4.heap.size < wx.heap.size ∧ w6.heap.size < wx.heap.size ∧ wx.cell? ⟨w.heap.size, 0, none⟩ = some (.int .i64 T.x) ∧ wx.cell? ⟨w.heap.size, 1, none⟩ = some (.int .i64 T.y) ∧ wx.cell? ⟨w.heap.size, 2, none⟩ = some (.bool T.far) ∧ wx.cell? ⟨w.heap.size + 1, 0, none⟩ = some (.int .i64 key.x) ∧ wx.cell? ⟨w.heap.size + 1, 1, none⟩ = some (.int .i64 key.y) ∧ wx.cell? ⟨w.heap.size + 1, 2, none⟩ = some (.bool key.far) ∧ wx.cell? ⟨w.heap.size + 1 + 1, 0, none⟩ = some (.int .i64 P.x) ∧ wx.cell? ⟨w.heap.size + 1 + 1, 1, none⟩ = some (.int .i64 P.y) ∧ wx.cell? ⟨w.heap.size + 1 + 1, 2, none⟩ = some (.bool P.far) ∧ wx.cell? ⟨w.heap.size + 1 + 1, 3, none⟩ = some (.int .i64 PS) ∧ wx.cell? ⟨w.heap.size + 1 + 1 + 1, 0, none⟩ = some (.int .i64 Q.x) ∧ wx.cell? ⟨w.heap.size + 1 + 1 + 1, 1, none⟩ = some (.int .i64 Q.y) ∧ wx.cell? ⟨w.heap.size + 1 + 1 + 1, 2, none⟩ = some (.bool Q.far) ∧ wx.cell? ⟨w.heap.size + 1 + 1 + 1, 3, none⟩ = some (.int .i64 QS))
                          case first =>
                            rcases g3.out with ⟨e1, e2⟩ | ⟨e1, e2⟩
                            · subst e1 e2
                              clear g3
                              go_wp2_with fail
                              go_meet
                              exact ⟨rfl, (by repeat (first | with_reducible exact hB22 | with_reducible exact Below.refl _ _ | with_reducible refine below_set ?_ (by first | omega | (dsimp only; omega)) _ | with_reducible refine balloc ?_ _ | with_reducible refine Below.drew ?_ | with_reducible refine below_drewN ?_ _ | exact hB22 | exact Below.refl _ _ | refine balloc ?_ _ | refine Below.drew ?_ | refine below_drewN ?_ _ | refine below_set ?_ (by first | omega | (dsimp only; omega)) _)), (by first | with_reducible assumption | omega | (simp only [World.heap_drewN, World.size_alloc, World.size_setCell, World.size_drew]; omega)), (by first | with_reducible assumption | omega | (simp only [World.heap_drewN, World.size_alloc, World.size_setCell, World.size_drew]; omega)), (by first | with_reducible assumption | omega | (simp only [World.heap_drewN, World.size_alloc, World.size_setCell, World.size_drew]; omega)), (by first | with_reducible assumption | omega | (simp only [World.heap_drewN, World.size_alloc, World.size_setCell, World.size_drew]; omega)), (by first | with_reducible assumption | omega | (simp only [World.heap_drewN, World.size_alloc, World.size_setCell, World.size_drew]; omega)), (by first | with_reducible assumption | omega | (simp only [World.heap_drewN, World.size_alloc, World.size_setCell, World.size_drew]; omega)), (by first | with_reducible assumption | go_simp), (by first | with_reducible assumption | go_simp), (by first | with_reducible assumption | go_simp), (by first | with_reducible assumption | go_simp), (by first | with_reducible assumption | go_simp), (by first | with_reducible assumption | go_simp), (by first | with_reducible assumption | go_simp), (by first | with_reducible assumption | go_simp), (by first | with_reducible assumption | go_simp), (by first | with_reducible assumption | go_simp), (by first | with_reducible assumption | go_simp), (by first | with_reducible assumption | go_simp), (by first | with_reducible assumption | go_simp), (by first | with_reducible assumption | go_simp)⟩
                            · skip
                              subst e1 e2
                              clear g3
                              go_wp2_with fail
                              go_meet
                              exact ⟨rfl, (by repeat (first | with_reducible exact hB22 | with_reducible exact Below.refl _ _ | with_reducible refine below_set ?_ (by first | omega | (dsimp only; omega)) _ | with_reducible refine balloc ?_ _ | with_reducible refine Below.drew ?_ | with_reducible refine below_drewN ?_ _ | exact hB22 | exact Below.refl _ _ | refine balloc ?_ _ | refine Below.drew ?_ | refine below_drewN ?_ _ | refine below_set ?_ (by first | omega | (dsimp only; omega)) _)), (by first | with_reducible assumption | omega | (simp only [World.heap_drewN, World.size_alloc, World.size_setCell, World.size_drew]; omega)), (by first | with_reducible assumption | omega | (simp only [World.heap_drewN, World.size_alloc, World.size_setCell, World.size_drew]; omega)), (by first | with_reducible assumption | omega | (simp only [World.heap_drewN, World.size_alloc, World.size_setCell, World.size_drew]; omega)), (by first | with_reducible assumption | omega | (simp only [World.heap_drewN, World.size_alloc, World.size_setCell, World.size_drew]; omega)), (by first | with_reducible assumption | omega | (simp only [World.heap_drewN, World.size_alloc, World.size_setCell, World.size_drew]; omega)), (by first | with_reducible assumption | omega | (simp only [World.heap_drewN, World.size_alloc, World.size_setCell, World.size_drew]; omega)), (by first | with_reducible assumption | go_simp), (by first | with_reducible assumption | go_simp), (by first | with_reducible assumption | go_simp), (by first | with_reducible assumption | go_simp), (by first | with_reducible assumption | go_simp), (by first | with_reducible assumption | go_simp), (by first | with_reducible assumption | go_simp), (by first | with_reducible assumption | go_simp), (by first | with_reducible assumption | go_simp), (by first | with_reducible assumption | go_simp), (by first | with_reducible assumption | go_simp), (by first | with_reducible assumption | go_simp), (by first | with_reducible assumption | go_simp), (by first | with_reducible assumption | go_simp)⟩
                          case rest =>
                            obtain ⟨w23, hwq⟩ : ∃ x, x = wc := ⟨_, rfl⟩
                            subst hwq
                            obtain ⟨rfl, hB23, s23_0, s23_1, s23_2, s23_3, s23_4, s23_5, m23_0_0, m23_0_1, m23_0_2, m23_1_0, m23_1_1, m23_1_2, m23_2_0, m23_2_1, m23_2_2, m23_2_3, m23_3_0, m23_3_1, m23_3_2, m23_3_3⟩ := hcut
                            clear m22_0_0 m22_0_1 m22_0_2 m22_1_0 m22_1_1 m22_1_2 m22_2_0 m22_2_1 m22_2_2 m22_2_3 m22_3_0 m22_3_1 m22_3_2 m22_3_3
                            clear hB22 s22_0 s22_1 s22_2 s22_3 s22_4 s22_5
                            clear g3
                            go_upto_region 38 with fail
                            go_cut [191] from 183 to 190 (fun s191 wx => s191 = .bool C1 ∧ Below w.heap.size w wx ∧ w.heap.size < wx.heap.size ∧ w.heap.size + 1 < wx.heap.size ∧ w.heap.size + 1 + 1 < wx.heap.size ∧ w.heap.size + 1 + 1 + 1 < wx.heap.size ∧ w4.heap.size < wx.heap.size ∧ w6.heap.size < wx.heap.size ∧ wx.cell? ⟨w.heap.size, 0, none⟩ = some (.int .i64 T.x) ∧ wx.cell? ⟨w.heap.size, 1, none⟩ = some (.int .i64 T.y) ∧ wx.cell? ⟨w.heap.size, 2, none⟩ = some (.bool T.far) ∧ wx.cell? ⟨w.heap.size + 1, 0, none⟩ = some (.int .i64 key.x) ∧ wx.cell? ⟨w.heap.size + 1, 1, none⟩ = some (.int .i64 key.y) ∧ wx.cell? ⟨w.heap.size + 1, 2, none⟩ = some (.bool key.far) ∧ wx.cell? ⟨w.heap.size + 1 + 1, 0, none⟩ = some (.int .i64 P.x) ∧ wx.cell? ⟨w.heap.size + 1 + 1, 1, none⟩ = some (.int .i64 P.y) ∧ wx.cell? ⟨w.heap.size + 1 + 1, 2, none⟩ = some (.bool P.far) ∧ wx.cell? ⟨w.heap.size + 1 + 1, 3, none⟩ = some (.int .i64 PS) ∧ wx.cell? ⟨w.heap.size + 1 + 1 + 1, 0, none⟩ = some (.int .i64 Q.x) ∧ wx.cell? ⟨w.heap.size + 1 + 1 + 1, 1, none⟩ = some (.int .i64 Q.y) ∧ wx.cell? ⟨w.heap.size + 1 + 1 + 1, 2, none⟩ = some (.bool Q.far) ∧ wx.cell? ⟨w.heap.size + 1 + 1 + 1, 3, none⟩ = some (.int .i64 QS))
                            case first =>
                              rcases g4.out with ⟨e1, e2, e3⟩ | ⟨e1, e2, e3⟩ | ⟨e1, e2⟩
                              · subst e1 e3
                                clear g4
                                go_wp2_with fail
                                go_meet
                                exact ⟨rfl, (by repeat (first | with_reducible exact hB23 | with_reducible exact Below.refl _ _ | with_reducible refine below_set ?_ (by first | omega | (dsimp only; omega)) _ | with_reducible refine balloc ?_ _ | with_reducible refine Below.drew ?_ | with_reducible refine below_drewN ?_ _ | exact hB23 | exact Below.refl _ _ | refine balloc ?_ _ | refine Below.drew ?_ | refine below_drewN ?_ _ | refine below_set ?_ (by first | omega | (dsimp only; omega)) _)), (by first | with_reducible assumption | omega | (simp only [World.heap_drewN, World.size_alloc, World.size_setCell, World.size_drew]; omega)), (by first | with_reducible assumption | omega | (simp only [World.heap_drewN, World.size_alloc, World.size_setCell, World.size_drew]; omega)), (by first | with_reducible assumption | omega | (simp only [World.heap_drewN, World.size_alloc, World.size_setCell, World.size_drew]; omega)), (by first | with_reducible assumption | omega | (simp only [World.heap_drewN, World.size_alloc, World.size_setCell, World.size_drew]; omega)), (by first | with_reducible assumption | omega | (simp only [World.heap_drewN, World.size_alloc, World.size_setCell, World.size_drew]; omega)), (by first | with_reducible assumption | omega | (simp only [World.heap_drewN, World.size_alloc, World.size_setCell, World.size_drew]; omega)), (by first | with_reducible assumption | go_simp), (by first | with_reducible assumption | go_simp), (by first | with_reducible assumption | go_simp), (by first | with_reducible assumption | go_simp), (by first | with_reducible assumption | go_simp), (by first | with_reducible assumption | go_simp), (by first | with_reducible assumption | go_simp), (by first | with_reducible assumption | go_simp), (by first | with_reducible assumption | go_simp), (by first | with_reducible assumption | go_simp), (by first | with_reducible assumption | go_simp), (by first | with_reducible assumption | go_simp), (by first | with_reducible assumption | go_simp), (by first | with_reducible assumption | go_simp)⟩
                              · skip
                                subst e1 e3
                                clear g4
                                go_wp2_with fail
                                go_meet
                                exact ⟨rfl, (by repeat (first | with_reducible exact hB23 | with_reducible exact Below.refl _ _ | with_reducible refine below_set ?_ (by first | omega | (dsimp only; omega)) _ | with_reducible refine balloc ?_ _ | with_reducible refine Below.drew ?_ | with_reducible refine below_drewN ?_ _ | exact hB23 | exact Below.refl _ _ | refine balloc ?_ _ | refine Below.drew ?_ | refine below_drewN ?_ _ | refine below_set ?_ (by first | omega | (dsimp only; omega)) _)), (by first | with_reducible assumption | omega | (simp only [World.heap_drewN, World.size_alloc, World.size_setCell, World.size_drew]; omega)), (by first | with_reducible assumption | omega | (simp only [World.heap_drewN, World.size_alloc, World.size_setCell, World.size_drew]; omega)), (by first | with_reducible assumption | omega | (simp only [World.heap_drewN, World.size_alloc, World.size_setCell, World.size_drew]; omega)), (by first | with_reducible assumption | omega | (simp only [World.heap_drewN, World.size_alloc, World.size_setCell, World.size_drew]; omega)), (by first | with_reducible assumption | omega | (simp only [World.heap_drewN, World.size_alloc, World.size_setCell, World.size_drew]; omega)), (by first | with_reducible assumption | omega | (simp only [World.heap_drewN, World.size_alloc, World.size_setCell, World.size_drew]; omega)), (by first | with_reducible assumption | go_simp), (by first | with_reducible assumption | go_simp), (by first | with_reducible assumption | go_simp), (by first | with_reducible assumption | go_simp), (by first | with_reducible assumption | go_simp), (by first | with_reducible assumption | go_simp), (by first | with_reducible assumption | go_simp), (by first | with_reducible assumption | go_simp), (by first | with_reducible assumption | go_simp), (by first | with_reducible assumption | go_simp), (by first | with_reducible assumption | go_simp), (by first | with_reducible assumption | go_simp), (by first | with_reducible assumption | go_simp), (by first | with_reducible assumption | go_simp)⟩
                              · skip
                                subst e2
                                clear g4
                                go_wp2_with fail
                                go_meet
                                exact ⟨rfl, (by repeat (first | with_reducible exact hB23 | with_reducible exact Below.refl _ _ | with_reducible refine below_set ?_ (by first | omega | (dsimp only; omega)) _ | with_reducible refine balloc ?_ _ | with_reducible refine Below.drew ?_ | with_reducible refine below_drewN ?_ _ | exact hB23 | exact Below.refl _ _ | refine balloc ?_ _ | refine Below.drew ?_ | refine below_drewN ?_ _ | refine below_set ?_ (by first | omega | (dsimp only; omega)) _)), (by first | with_reducible assumption | omega | (simp only [World.heap_drewN, World.size_alloc, World.size_setCell, World.size_drew]; omega)), (by first | with_reducible assumption | omega | (simp only [World.heap_drewN, World.size_alloc, World.size_setCell, World.size_drew]; omega)), (by first | with_reducible assumption | omega | (simp only [World.heap_drewN, World.size_alloc, World.size_setCell, World.size_drew]; omega)), (by first | with_reducible assumption | omega | (simp only [World.heap_drewN, World.size_alloc, World.size_setCell, World.size_drew]; omega)), (by first | with_reducible assumption | omega | (simp only [World.heap_drewN, World.size_alloc, World.size_setCell, World.size_drew]; omega)), (by first | with_reducible assumption | omega | (simp only [World.heap_drewN, World.size_alloc, World.size_setCell, World.size_drew]; omega)), (by first | with_reducible assumption | go_simp), (by first | with_reducible assumption | go_simp), (by first | with_reducible assumption | go_simp), (by first | with_reducible assumption | go_simp), (by first | with_reducible assumption | go_simp), (by first | with_reducible assumption | go_simp), (by first | with_reducible assumption | go_simp), (by first | with_reducible assumption | go_simp), (by first | with_reducible assumption | go_simp), (by first | with_reducible assumption | go_simp), (by first | with_reducible assumption | go_simp), (by first | with_reducible assumption | go_simp), (by first | with_reducible assumption | go_simp), (by first | with_reducible assumption | go_simp)⟩
                            case rest =>
                              obtain ⟨w24, hwq⟩ : ∃ x, x = wc := ⟨_, rfl⟩
                              subst hwq
                              obtain ⟨rfl, hB24, s24_0, s24_1, s24_2, s24_3, s24_4, s24_5, m24_0_0, m24_0_1, m24_0_2, m24_1_0, m24_1_1, m24_1_2, m24_2_0, m24_2_1, m24_2_2, m24_2_3, m24_3_0, m24_3_1, m24_3_2, m24_3_3⟩ := hcut
                              clear m23_0_0 m23_0_1 m23_0_2 m23_1_0 m23_1_1 m23_1_2 m23_2_0 m23_2_1 m23_2_2 m23_2_3 m23_3_0 m23_3_1 m23_3_2 m23_3_3
                              clear hB23 s23_0 s23_1 s23_2 s23_3 s23_4 s23_5
                              clear g4
                              go_upto_if 191 with fail
                              go_cut [17] from 192 to 192 (fun s17 wx => s17 = .int .i64 E9 ∧ Below w.heap.size w wx ∧ w.heap.size < wx.heap.size ∧ w.heap.size + 1 < wx.heap.size ∧ w.heap.size + 1 + 1 < wx.heap.size ∧ w.heap.size + 1 + 1 + 1 < wx.heap.size ∧ w4.heap.size < wx.heap.size ∧ w6.heap.size < wx.heap.size ∧ wx.cell? ⟨w.heap.size, 0, none⟩ = some (.int .i64 T.x) ∧ wx.cell? ⟨w.heap.size, 1, none⟩ = some (.int .i64 T.y) ∧ wx.cell? ⟨w.heap.size, 2, none⟩ = some (.bool T.far) ∧ wx.cell? ⟨w.heap.size + 1, 0, none⟩ = some (.int .i64 key.x) ∧ wx.cell? ⟨w.heap.size + 1, 1, none⟩ = some (.int .i64 key.y) ∧ wx.cell? ⟨w.heap.size + 1, 2, none⟩ = some (.bool key.far) ∧ wx.cell? ⟨w.heap.size + 1 + 1, 0, none⟩ = some (.int .i64 P.x) ∧ wx.cell? ⟨w.heap.size + 1 + 1, 1, none⟩ = some (.int .i64 P.y) ∧ wx.cell? ⟨w.heap.size + 1 + 1, 2, none⟩ = some (.bool P.far) ∧ wx.cell? ⟨w.heap.size + 1 + 1, 3, none⟩ = some (.int .i64 PS) ∧ wx.cell? ⟨w.heap.size + 1 + 1 + 1, 0, none⟩ = some (.int .i64 Q.x) ∧ wx.cell? ⟨w.heap.size + 1 + 1 + 1, 1, none⟩ = some (.int .i64 Q.y) ∧ wx.cell? ⟨w.heap.size + 1 + 1 + 1, 2, none⟩ = some (.bool Q.far) ∧ wx.cell? ⟨w.heap.size + 1 + 1 + 1, 3, none⟩ = some (.int .i64 QS))
                              case first =>
                                rcases g5.out with ⟨e1, e2⟩ | ⟨e1, e2⟩
                                · subst e1 e2
                                  clear g5
                                  go_wp2_with fail
                                  go_meet
                                  exact ⟨rfl, (by repeat (first | with_reducible exact hB24 | with_reducible exact Below.refl _ _ | with_reducible refine below_set ?_ (by first | omega | (dsimp only; omega)) _ | with_reducible refine balloc ?_ _ | with_reducible refine Below.drew ?_ | with_reducible refine below_drewN ?_ _ | exact hB24 | exact Below.refl _ _ | refine balloc ?_ _ | refine Below.drew ?_ | refine below_drewN ?_ _ | refine below_set ?_ (by first | omega | (dsimp only; omega)) _)), (by first | with_reducible assumption | omega | (simp only [World.heap_drewN, World.size_alloc, World.size_setCell, World.size_drew]; omega)), (by first | with_reducible assumption | omega | (simp only [World.heap_drewN, World.size_alloc, World.size_setCell, World.size_drew]; omega)), (by first | with_reducible assumption | omega | (simp only [World.heap_drewN, World.size_alloc, World.size_setCell, World.size_drew]; omega)), (by first | with_reducible assumption | omega | (simp only [World.heap_drewN, World.size_alloc, World.size_setCell, World.size_drew]; omega)), (by first | with_reducible assumption | omega | (simp only [World.heap_drewN, World.size_alloc, World.size_setCell, World.size_drew]; omega)), (by first | with_reducible assumption | omega | (simp only [World.heap_drewN, World.size_alloc, World.size_setCell, World.size_drew]; omega)), (by first | with_reducible assumption | go_simp), (by first | with_reducible assumption | go_simp), (by first | with_reducible assumption | go_simp), (by first | with_reducible assumption | go_simp), (by first | with_reducible assumption | go_simp), (by first | with_reducible assumption | go_simp), (by first | with_reducible assumption | go_simp), (by first | with_reducible assumption | go_simp), (by first | with_reducible assumption | go_simp), (by first | with_reducible assumption | go_simp), (by first | with_reducible assumption | go_simp), (by first | with_reducible assumption | go_simp), (by first | with_reducible assumption | go_simp), (by first | with_reducible assumption | go_simp)⟩
                                · skip
                                  subst e1 e2
                                  clear g5
                                  go_wp2_with fail
                                  go_meet
                                  exact ⟨rfl, (by repeat (first | with_reducible exact hB24 | with_reducible exact Below.refl _ _ | with_reducible refine below_set ?_ (by first | omega | (dsimp only; omega)) _ | with_reducible refine balloc ?_ _ | with_reducible refine Below.drew ?_ | with_reducible refine below_drewN ?_ _ | exact hB24 | exact Below.refl _ _ | refine balloc ?_ _ | refine Below.drew ?_ | refine below_drewN ?_ _ | refine below_set ?_ (by first | omega | (dsimp only; omega)) _)), (by first | with_reducible assumption | omega | (simp only [World.heap_drewN, World.size_alloc, World.size_setCell, World.size_drew]; omega)), (by first | with_reducible assumption | omega | (simp only [World.heap_drewN, World.size_alloc, World.size_setCell, World.size_drew]; omega)), (by first | with_reducible assumption | omega | (simp only [World.heap_drewN, World.size_alloc, World.size_setCell, World.size_drew]; omega)), (by first | with_reducible assumption | omega | (simp only [World.heap_drewN, World.size_alloc, World.size_setCell, World.size_drew]; omega)), (by first | with_reducible assumption | omega | (simp only [World.heap_drewN, World.size_alloc, World.size_setCell, World.size_drew]; omega)), (by first | with_reducible assumption | omega | (simp only [World.heap_drewN, World.size_alloc, World.size_setCell, World.size_drew]; omega)), (by first | with_reducible assumption | go_simp), (by first | with_reducible assumption | go_simp), (by first | with_reducible assumption | go_simp), (by first | with_reducible assumption | go_simp), (by first | with_reducible assumption | go_simp), (by first | with_reducible assumption | go_simp), (by first | with_reducible assumption | go_simp), (by first | with_reducible assumption | go_simp), (by first | with_reducible assumption | go_simp), (by first | with_reducible assumption | go_simp), (by first | with_reducible assumption | go_simp), (by first | with_reducible assumption | go_simp), (by first | with_reducible assumption | go_simp), (by first | with_reducible assumption | go_simp)⟩
                              case rest =>
                                obtain ⟨w25, hwq⟩ : ∃ x, x = wc := ⟨_, rfl⟩
                                subst hwq
                                obtain ⟨rfl, hB25, s25_0, s25_1, s25_2, s25_3, s25_4, s25_5, m25_0_0, m25_0_1, m25_0_2, m25_1_0, m25_1_1, m25_1_2, m25_2_0, m25_2_1, m25_2_2, m25_2_3, m25_3_0, m25_3_1, m25_3_2, m25_3_3⟩ := hcut
                                clear m24_0_0 m24_0_1 m24_0_2 m24_1_0 m24_1_1 m24_1_2 m24_2_0 m24_2_1 m24_2_2 m24_2_3 m24_3_0 m24_3_1 m24_3_2 m24_3_3
                                clear hB24 s24_0 s24_1 s24_2 s24_3 s24_4 s24_5
                                clear g5
                                go_upto_if 193 with fail
                                go_cut [30] from 193 to 199 (fun s30 wx => s30 = .int .i64 M ∧ Below w.heap.size w wx ∧ w.heap.size < wx.heap.size ∧ w.heap.size + 1 < wx.heap.size ∧ w.heap.size + 1 + 1 < wx.heap.size ∧ w.heap.size + 1 + 1 + 1 < wx.heap.size ∧ w4.heap.size < wx.heap.size ∧ w6.heap.size < wx.heap.size ∧ wx.cell? ⟨w.heap.size, 0, none⟩ = some (.int .i64 T.x) ∧ wx.cell? ⟨w.heap.size, 1, none⟩ = some (.int .i64 T.y) ∧ wx.cell? ⟨w.heap.size, 2, none⟩ = some (.bool T.far) ∧ wx.cell? ⟨w.heap.size + 1, 0, none⟩ = some (.int .i64 key.x) ∧ wx.cell? ⟨w.heap.size + 1, 1, none⟩ = some (.int .i64 key.y) ∧ wx.cell? ⟨w.heap.size + 1, 2, none⟩ = some (.bool key.far) ∧ wx.cell? ⟨w.heap.size + 1 + 1, 0, none⟩ = some (.int .i64 P.x) ∧ wx.cell? ⟨w.heap.size + 1 + 1, 1, none⟩ = some (.int .i64 P.y) ∧ wx.cell? ⟨w.heap.size + 1 + 1, 2, none⟩ = some (.bool P.far) ∧ wx.cell? ⟨w.heap.size + 1 + 1, 3, none⟩ = some (.int .i64 PS) ∧ wx.cell? ⟨w.heap.size + 1 + 1 + 1, 0, none⟩ = some (.int .i64 Q.x) ∧ wx.cell? ⟨w.heap.size + 1 + 1 + 1, 1, none⟩ = some (.int .i64 Q.y) ∧ wx.cell? ⟨w.heap.size + 1 + 1 + 1, 2, none⟩ = some (.bool Q.far) ∧ wx.cell? ⟨w.heap.size + 1 + 1 + 1, 3, none⟩ = some (.int .i64 QS))
                                case first =>
                                  rcases g6.out with ⟨e1, s0, s1, t0, t1, e2⟩ | ⟨e1, e2⟩
                                  · subst e1
                                    replace e2 := Lib.hid e2
                                    clear g6
                                    have eng : IntKind.i64.wrap (QS - PS) = QS - PS := IntWalk.i64_in _ (by omega)
                                    go_wp2_with fail
                                    refine (refMod_e (QS - PS) 1013 M _ (by omega) (by omega) (by omega) (by omega) e2).mono ?_; rintro e w' ⟨rfl, rfl⟩
                                    go_wp2_with fail
                                    go_meet
                                    exact ⟨rfl, (by repeat (first | with_reducible exact hB25 | with_reducible exact Below.refl _ _ | with_reducible refine below_set ?_ (by first | omega | (dsimp only; omega)) _ | with_reducible refine balloc ?_ _ | with_reducible refine Below.drew ?_ | with_reducible refine below_drewN ?_ _ | exact hB25 | exact Below.refl _ _ | refine balloc ?_ _ | refine Below.drew ?_ | refine below_drewN ?_ _ | refine below_set ?_ (by first | omega | (dsimp only; omega)) _)), (by first | with_reducible assumption | omega | (simp only [World.heap_drewN, World.size_alloc, World.size_setCell, World.size_drew]; omega)), (by first | with_reducible assumption | omega | (simp only [World.heap_drewN, World.size_alloc, World.size_setCell, World.size_drew]; omega)), (by first | with_reducible assumption | omega | (simp only [World.heap_drewN, World.size_alloc, World.size_setCell, World.size_drew]; omega)), (by first | with_reducible assumption | omega | (simp only [World.heap_drewN, World.size_alloc, World.size_setCell, World.size_drew]; omega)), (by first | with_reducible assumption | omega | (simp only [World.heap_drewN, World.size_alloc, World.size_setCell, World.size_drew]; omega)), (by first | with_reducible assumption | omega | (simp only [World.heap_drewN, World.size_alloc, World.size_setCell, World.size_drew]; omega)), (by first | with_reducible assumption | go_simp), (by first | with_reducible assumption | go_simp), (by first | with_reducible assumption | go_simp), (by first | with_reducible assumption | go_simp), (by first | with_reducible assumption | go_simp), (by first | with_reducible assumption | go_simp), (by first | with_reducible assumption | go_simp), (by first | with_reducible assumption | go_simp), (by first | with_reducible assumption | go_simp), (by first | with_reducible assumption | go_simp), (by first | with_reducible assumption | go_simp), (by first | with_reducible assumption | go_simp), (by first | with_reducible assumption | go_simp), (by first | with_reducible assumption | go_simp)⟩
                                  · skip
                                    subst e2
                                    clear g6
                                    go_wp2_with fail
                                    go_meet
                                    exact ⟨rfl, (by repeat (first | with_reducible exact hB25 | with_reducible exact Below.refl _ _ | with_reducible refine below_set ?_ (by first | omega | (dsimp only; omega)) _ | with_reducible refine balloc ?_ _ | with_reducible refine Below.drew ?_ | with_reducible refine below_drewN ?_ _ | exact hB25 | exact Below.refl _ _ | refine balloc ?_ _ | refine Below.drew ?_ | refine below_drewN ?_ _ | refine below_set ?_ (by first | omega | (dsimp only; omega)) _)), (by first | with_reducible assumption | omega | (simp only [World.heap_drewN, World.size_alloc, World.size_setCell, World.size_drew]; omega)), (by first | with_reducible assumption | omega | (simp only [World.heap_drewN, World.size_alloc, World.size_setCell, World.size_drew]; omega)), (by first | with_reducible assumption | omega | (simp only [World.heap_drewN, World.size_alloc, World.size_setCell, World.size_drew]; omega)), (by first | with_reducible assumption | omega | (simp only [World.heap_drewN, World.size_alloc, World.size_setCell, World.size_drew]; omega)), (by first | with_reducible assumption | omega | (simp only [World.heap_drewN, World.size_alloc, World.size_setCell, World.size_drew]; omega)), (by first | with_reducible assumption | omega | (simp only [World.heap_drewN, World.size_alloc, World.size_setCell, World.size_drew]; omega)), (by first | with_reducible assumption | go_simp), (by first | with_reducible assumption | go_simp), (by first | with_reducible assumption | go_simp), (by first | with_reducible assumption | go_simp), (by first | with_reducible assumption | go_simp), (by first | with_reducible assumption | go_simp), (by first | with_reducible assumption | go_simp), (by first | with_reducible assumption | go_simp), (by first | with_reducible assumption | go_simp), (by first | with_reducible assumption | go_simp), (by first | with_reducible assumption | go_simp), (by first | with_reducible assumption | go_simp), (by first | with_reducible assumption | go_simp), (by first | with_reducible assumption | go_simp)⟩
                                case rest =>
                                  obtain ⟨w26, hwq⟩ : ∃ x, x = wc := ⟨_, rfl⟩
                                  subst hwq
                                  obtain ⟨rfl, hB26, s26_0, s26_1, s26_2, s26_3, s26_4, s26_5, m26_0_0, m26_0_1, m26_0_2, m26_1_0, m26_1_1, m26_1_2, m26_2_0, m26_2_1, m26_2_2, m26_2_3, m26_3_0, m26_3_1, m26_3_2, m26_3_3⟩ := hcut
                                  clear m25_0_0 m25_0_1 m25_0_2 m25_1_0 m25_1_1 m25_1_2 m25_2_0 m25_2_1 m25_2_2 m25_2_3 m25_3_0 m25_3_1 m25_3_2 m25_3_3
                                  clear hB25 s25_0 s25_1 s25_2 s25_3 s25_4 s25_5
                                  clear g6
                                  go_wp2_with fail
                                  refine (kFind.out _ (hF.below (by repeat (first | with_reducible exact hB26 | with_reducible exact Below.refl _ _ | with_reducible refine below_set ?_ (by first | omega | (dsimp only; omega)) _ | with_reducible refine balloc ?_ _ | with_reducible refine Below.drew ?_ | with_reducible refine below_drewN ?_ _ | exact hB26 | exact Below.refl _ _ | refine balloc ?_ _ | refine Below.drew ?_ | refine below_drewN ?_ _ | refine below_set ?_ (by first | omega | (dsimp only; omega)) _)))).mono ?_; rintro e w27 ⟨rfl, hb⟩
                                  obtain ⟨hc27, hf27⟩ := bcell hb
                                  have z27 := hb.size
                                  try simp only [World.size_alloc, World.size_setCell, World.size_drew] at z27
                                  have s27_0 : w.heap.size < w27.heap.size := by omega
                                  have s27_1 : w.heap.size + 1 < w27.heap.size := by omega
                                  have s27_2 : w.heap.size + 1 + 1 < w27.heap.size := by omega
                                  have s27_3 : w.heap.size + 1 + 1 + 1 < w27.heap.size := by omega
                                  have s27_4 : w4.heap.size < w27.heap.size := by omega
                                  have s27_5 : w6.heap.size < w27.heap.size := by omega
                                  have hB27 : Below w.heap.size w w27 := below_seq (by repeat (first | with_reducible exact hB26 | with_reducible exact Below.refl _ _ | with_reducible refine below_set ?_ (by first | omega | (dsimp only; omega)) _ | with_reducible refine balloc ?_ _ | with_reducible refine Below.drew ?_ | with_reducible refine below_drewN ?_ _ | exact hB26 | exact Below.refl _ _ | refine balloc ?_ _ | refine Below.drew ?_ | refine below_drewN ?_ _ | refine below_set ?_ (by first | omega | (dsimp only; omega)) _)) hb
                                  clear hb
                                  have m27_0_0 : w27.cell? ⟨w.heap.size, 0, none⟩ = some (.int .i64 T.x) := by go_simp
                                  have m27_0_1 : w27.cell? ⟨w.heap.size, 1, none⟩ = some (.int .i64 T.y) := by go_simp
                                  have m27_0_2 : w27.cell? ⟨w.heap.size, 2, none⟩ = some (.bool T.far) := by go_simp
                                  have m27_1_0 : w27.cell? ⟨w.heap.size + 1, 0, none⟩ = some (.int .i64 key.x) := by go_simp
                                  have m27_1_1 : w27.cell? ⟨w.heap.size + 1, 1, none⟩ = some (.int .i64 key.y) := by go_simp
                                  have m27_1_2 : w27.cell? ⟨w.heap.size + 1, 2, none⟩ = some (.bool key.far) := by go_simp
                                  have m27_2_0 : w27.cell? ⟨w.heap.size + 1 + 1, 0, none⟩ = some (.int .i64 P.x) := by go_simp
                                  have m27_2_1 : w27.cell? ⟨w.heap.size + 1 + 1, 1, none⟩ = some (.int .i64 P.y) := by go_simp
                                  have m27_2_2 : w27.cell? ⟨w.heap.size + 1 + 1, 2, none⟩ = some (.bool P.far) := by go_simp
                                  have m27_2_3 : w27.cell? ⟨w.heap.size + 1 + 1, 3, none⟩ = some (.int .i64 PS) := by go_simp
                                  have m27_3_0 : w27.cell? ⟨w.heap.size + 1 + 1 + 1, 0, none⟩ = some (.int .i64 Q.x) := by go_simp
                                  have m27_3_1 : w27.cell? ⟨w.heap.size + 1 + 1 + 1, 1, none⟩ = some (.int .i64 Q.y) := by go_simp
                                  have m27_3_2 : w27.cell? ⟨w.heap.size + 1 + 1 + 1, 2, none⟩ = some (.bool Q.far) := by go_simp
                                  have m27_3_3 : w27.cell? ⟨w.heap.size + 1 + 1 + 1, 3, none⟩ = some (.int .i64 QS) := by go_simp
                                  clear m26_0_0 m26_0_1 m26_0_2 m26_1_0 m26_1_1 m26_1_2 m26_2_0 m26_2_1 m26_2_2 m26_2_3 m26_3_0 m26_3_1 m26_3_2 m26_3_3
                                  clear hc27
                                  clear hB26 s26_0 s26_1 s26_2 s26_3 s26_4 s26_5 hf27
                                  go_wp2_with fail
                                  refine (error_same (errV E9) E9 _ (hE.below (by repeat (first | with_reducible exact hB27 | with_reducible exact Below.refl _ _ | with_reducible refine below_set ?_ (by first | omega | (dsimp only; omega)) _ | with_reducible refine balloc ?_ _ | with_reducible refine Below.drew ?_ | with_reducible refine below_drewN ?_ _ | exact hB27 | exact Below.refl _ _ | refine balloc ?_ _ | refine Below.drew ?_ | refine below_drewN ?_ _ | refine below_set ?_ (by first | omega | (dsimp only; omega)) _))) (Lib.hid rfl)).mono ?_; rintro e w28 ⟨rfl, hb⟩
                                  obtain ⟨hc28, hf28⟩ := bcell hb
                                  have z28 := hb.size
                                  try simp only [World.size_alloc, World.size_setCell, World.size_drew] at z28
                                  have s28_0 : w.heap.size < w28.heap.size := by omega
                                  have s28_1 : w.heap.size + 1 < w28.heap.size := by omega
                                  have s28_2 : w.heap.size + 1 + 1 < w28.heap.size := by omega
                                  have s28_3 : w.heap.size + 1 + 1 + 1 < w28.heap.size := by omega
                                  have s28_4 : w4.heap.size < w28.heap.size := by omega
                                  have s28_5 : w6.heap.size < w28.heap.size := by omega
                                  have hB28 : Below w.heap.size w w28 := below_seq (by repeat (first | with_reducible exact hB27 | with_reducible exact Below.refl _ _ | with_reducible refine below_set ?_ (by first | omega | (dsimp only; omega)) _ | with_reducible refine balloc ?_ _ | with_reducible refine Below.drew ?_ | with_reducible refine below_drewN ?_ _ | exact hB27 | exact Below.refl _ _ | refine balloc ?_ _ | refine Below.drew ?_ | refine below_drewN ?_ _ | refine below_set ?_ (by first | omega | (dsimp only; omega)) _)) hb
                                  clear hb
                                  have m28_0_0 : w28.cell? ⟨w.heap.size, 0, none⟩ = some (.int .i64 T.x) := by go_simp
                                  have m28_0_1 : w28.cell? ⟨w.heap.size, 1, none⟩ = some (.int .i64 T.y) := by go_simp
                                  have m28_0_2 : w28.cell? ⟨w.heap.size, 2, none⟩ = some (.bool T.far) := by go_simp
                                  have m28_1_0 : w28.cell? ⟨w.heap.size + 1, 0, none⟩ = some (.int .i64 key.x) := by go_simp
                                  have m28_1_1 : w28.cell? ⟨w.heap.size + 1, 1, none⟩ = some (.int .i64 key.y) := by go_simp
                                  have m28_1_2 : w28.cell? ⟨w.heap.size + 1, 2, none⟩ = some (.bool key.far) := by go_simp
                                  have m28_2_0 : w28.cell? ⟨w.heap.size + 1 + 1, 0, none⟩ = some (.int .i64 P.x) := by go_simp
                                  have m28_2_1 : w28.cell? ⟨w.heap.size + 1 + 1, 1, none⟩ = some (.int .i64 P.y) := by go_simp
                                  have m28_2_2 : w28.cell? ⟨w.heap.size + 1 + 1, 2, none⟩ = some (.bool P.far) := by go_simp
                                  have m28_2_3 : w28.cell? ⟨w.heap.size + 1 + 1, 3, none⟩ = some (.int .i64 PS) := by go_simp
                                  have m28_3_0 : w28.cell? ⟨w.heap.size + 1 + 1 + 1, 0, none⟩ = some (.int .i64 Q.x) := by go_simp
                                  have m28_3_1 : w28.cell? ⟨w.heap.size + 1 + 1 + 1, 1, none⟩ = some (.int .i64 Q.y) := by go_simp
                                  have m28_3_2 : w28.cell? ⟨w.heap.size + 1 + 1 + 1, 2, none⟩ = some (.bool Q.far) := by go_simp
                                  have m28_3_3 : w28.cell? ⟨w.heap.size + 1 + 1 + 1, 3, none⟩ = some (.int .i64 QS) := by go_simp
                                  clear m27_0_0 m27_0_1 m27_0_2 m27_1_0 m27_1_1 m27_1_2 m27_2_0 m27_2_1 m27_2_2 m27_2_3 m27_3_0 m27_3_1 m27_3_2 m27_3_3
                                  clear hc28
                                  clear z27 hB27 s27_0 s27_1 s27_2 s27_3 s27_4 s27_5 hf28
                                  go_wp2
                                  go_ret
                                  exact ⟨rfl, (by repeat (first | with_reducible exact hB28 | with_reducible exact Below.refl _ _ | with_reducible refine below_set ?_ (by first | omega | (dsimp only; omega)) _ | with_reducible refine balloc ?_ _ | with_reducible refine Below.drew ?_ | with_reducible refine below_drewN ?_ _ | exact hB28 | exact Below.refl _ _ | refine balloc ?_ _ | refine Below.drew ?_ | refine below_drewN ?_ _ | refine below_set ?_ (by first | omega | (dsimp only; omega)) _))⟩
end Go.Proofs.YtfnifdmnbccblaaDoor
namespace Go.Proofs.YtfnifdmnbccblaaDoor
open Go.RowKit
set_option maxRecDepth 100000
set_option linter.unusedVariables false
set_option linter.unusedSimpArgs false
set_option maxHeartbeats 1000000 in
theorem pre_nt (x k n : Int) (T : Sp) (t : ByteArray) (w : World) (hF : FarAt w) (x1 : 1 ≤ x) (x2 : x < 1013) (k1 : 1 ≤ k) (k2 : k < 1013) (hn : Hid (sCheck T = n)) (h0 : n ≠ 0) : Calls Tryd.prog 38 #[.int .i64 x, .int .i64 k, spV T, .string t] w fun e w' => e = .returned (.tuple #[slV ⟨0, 0, false⟩ 0, .iface 118 (.int .i64 n)]) ∧ Below w.heap.size w w' := by
  go_enter Tryd.func38, Tryd.ntmps38
  go_wp2_with fail
  refine (secret_y x _ x1 x2).mono ?_; rintro e w' ⟨rfl, rfl⟩
  go_wp2_with fail
  refine (secret_y k _ k1 k2).mono ?_; rintro e w' ⟨rfl, rfl⟩
  go_wp2_with fail
  refine (check_v T n _ (hF.below (by repeat (first | exact Below.refl _ _ | refine balloc ?_ _ | refine Below.drew ?_ | refine below_drewN ?_ _ | refine below_set ?_ (by first | omega | (dsimp only; omega)) _))) hn h0).mono ?_; rintro e w1 ⟨rfl, hb⟩
  obtain ⟨hc1, hf1⟩ := bcell hb
  have z1 := hb.size
  try simp only [World.size_alloc, World.size_setCell, World.size_drew] at z1
  have s1_0 : w.heap.size < w1.heap.size := by omega
  have s1_1 : w.heap.size + 1 < w1.heap.size := by omega
  have hB1 : Below w.heap.size w w1 := below_seq (by repeat (first | exact Below.refl _ _ | refine balloc ?_ _ | refine Below.drew ?_ | refine below_drewN ?_ _ | refine below_set ?_ (by first | omega | (dsimp only; omega)) _)) hb
  clear hb
  have r0 : w1.cell? ⟨w.heap.size + 1, 0, none⟩ = some (.int .i64 0) := by go_simp
  have r1 : w1.cell? ⟨w.heap.size + 1, 1, none⟩ = some (.int .i64 0) := by go_simp
  have r2 : w1.cell? ⟨w.heap.size + 1, 2, none⟩ = some (.bool false) := by go_simp
  have r3 : w1.cell? ⟨w.heap.size + 1, 3, none⟩ = some (.int .i64 0) := by go_simp
  go_wp2
  have k := set4_cell (w := w1) (x := .int .i64 0) (y := .int .i64 0) (z := .bool false) (p := .int .i64 0) r0 r1 r2 r3
  refine bodyPost_ret (v := .tuple #[slV ⟨0, 0, false⟩ 0, .iface 118 (.int .i64 n)]) (by simp [results, Tryd.results38, go_sem, k.1, k.2.1, k.2.2.1, k.2.2.2]) rfl ⟨rfl, set4_below (by repeat (first | exact hB1 | exact Below.refl _ _ | refine balloc ?_ _ | refine Below.drew ?_ | refine below_drewN ?_ _ | refine below_set ?_ (by first | omega | (dsimp only; omega)) _)) (by omega)⟩
set_option maxHeartbeats 1000000 in
theorem acheck_n (key T R : Sp) (S n : Int) (t : ByteArray) (w : World) (hF : FarAt w) (hz : t.size ≤ 140737488351232) (hn : Hid (sealF key R S t.size = n)) (h0 : n ≠ 0) : Calls Tryd.prog 39 #[spV key, spV T, .string t, slV R S] w fun e w' => e = .returned (.tuple #[.bool false, .iface 118 (.int .i64 n)]) ∧ Below w.heap.size w w' := by
  go_enter Tryd.func39, Tryd.ntmps39
  go_wp2_with fail
  refine (sealCheck_t key R S n t _ (hF.below (by repeat (first | exact Below.refl _ _ | refine balloc ?_ _ | refine Below.drew ?_ | refine below_drewN ?_ _ | refine below_set ?_ (by first | omega | (dsimp only; omega)) _))) hz hn h0).mono ?_; rintro e w1 ⟨rfl, hb⟩
  obtain ⟨hc1, hf1⟩ := bcell hb
  have z1 := hb.size
  try simp only [World.size_alloc, World.size_setCell, World.size_drew] at z1
  have s1_0 : w.heap.size < w1.heap.size := by omega
  have s1_1 : w.heap.size + 1 < w1.heap.size := by omega
  have s1_2 : w.heap.size + 1 + 1 < w1.heap.size := by omega
  have hB1 : Below w.heap.size w w1 := below_seq (by repeat (first | exact Below.refl _ _ | refine balloc ?_ _ | refine Below.drew ?_ | refine below_drewN ?_ _ | refine below_set ?_ (by first | omega | (dsimp only; omega)) _)) hb
  clear hb
  go_wp2
  go_ret2
  exact ⟨rfl, (by repeat (first | exact hB1 | exact Below.refl _ _ | refine balloc ?_ _ | refine Below.drew ?_ | refine below_drewN ?_ _ | refine below_set ?_ (by first | omega | (dsimp only; omega)) _))⟩
set_option maxHeartbeats 1000000 in
theorem acheck_nt (key T R : Sp) (S n : Int) (t : ByteArray) (w : World) (hF : FarAt w) (hz : t.size ≤ 60) (hk : Ok key) (hR : Ok R) (s0 : 0 ≤ S) (s1 : S < 1013) (hn : Hid (sCheck T = n)) (h0 : n ≠ 0) : Calls Tryd.prog 39 #[spV key, spV T, .string t, slV R S] w fun e w' => e = .returned (.tuple #[.bool false, .iface 118 (.int .i64 n)]) ∧ Below w.heap.size w w' := by
  go_enter Tryd.func39, Tryd.ntmps39
  go_wp2_with fail
  refine (sealCheck_ok key R S t _ (hF.below (by repeat (first | exact Below.refl _ _ | refine balloc ?_ _ | refine Below.drew ?_ | refine below_drewN ?_ _ | refine below_set ?_ (by first | omega | (dsimp only; omega)) _))) hk hR hz s0 s1).mono ?_; rintro e w1 ⟨rfl, hb⟩
  obtain ⟨hc1, hf1⟩ := bcell hb
  have z1 := hb.size
  try simp only [World.size_alloc, World.size_setCell, World.size_drew] at z1
  have s1_0 : w.heap.size < w1.heap.size := by omega
  have s1_1 : w.heap.size + 1 < w1.heap.size := by omega
  have s1_2 : w.heap.size + 1 + 1 < w1.heap.size := by omega
  have hB1 : Below w.heap.size w w1 := below_seq (by repeat (first | exact Below.refl _ _ | refine balloc ?_ _ | refine Below.drew ?_ | refine below_drewN ?_ _ | refine below_set ?_ (by first | omega | (dsimp only; omega)) _)) hb
  clear hb
  go_wp2_with fail
  refine (check_v T n _ (hF.below (by repeat (first | exact hB1 | exact Below.refl _ _ | refine balloc ?_ _ | refine Below.drew ?_ | refine below_drewN ?_ _ | refine below_set ?_ (by first | omega | (dsimp only; omega)) _))) hn h0).mono ?_; rintro e w2 ⟨rfl, hb⟩
  obtain ⟨hc2, hf2⟩ := bcell hb
  have z2 := hb.size
  try simp only [World.size_alloc, World.size_setCell, World.size_drew] at z2
  have s2_0 : w.heap.size < w2.heap.size := by omega
  have s2_1 : w.heap.size + 1 < w2.heap.size := by omega
  have s2_2 : w.heap.size + 1 + 1 < w2.heap.size := by omega
  have hB2 : Below w.heap.size w w2 := below_seq (by repeat (first | exact hB1 | exact Below.refl _ _ | refine balloc ?_ _ | refine Below.drew ?_ | refine below_drewN ?_ _ | refine below_set ?_ (by first | omega | (dsimp only; omega)) _)) hb
  clear hb
  go_wp2
  go_ret2
  exact ⟨rfl, (by repeat (first | exact hB2 | exact Below.refl _ _ | refine balloc ?_ _ | refine Below.drew ?_ | refine below_drewN ?_ _ | refine below_set ?_ (by first | omega | (dsimp only; omega)) _))⟩
set_option maxHeartbeats 1000000 in
theorem right_nr (R : Sp) (S n : Int) (w : World) (hF : FarAt w) (hn : Hid (sCheck R = n)) (h0 : n ≠ 0) : Calls Tryd.prog 99 #[slV R S] w fun e w' => e = .returned (.iface 118 (.int .i64 n)) ∧ Below w.heap.size w w' := by
  go_enter Tryd.func99, Tryd.ntmps99
  go_wp2_with fail
  refine (check_v R n _ (hF.below (by repeat (first | exact Below.refl _ _ | refine balloc ?_ _ | refine Below.drew ?_ | refine below_drewN ?_ _ | refine below_set ?_ (by first | omega | (dsimp only; omega)) _))) hn h0).mono ?_; rintro e w1 ⟨rfl, hb⟩
  obtain ⟨hc1, hf1⟩ := bcell hb
  have z1 := hb.size
  try simp only [World.size_alloc, World.size_setCell, World.size_drew] at z1
  have s1_0 : w.heap.size < w1.heap.size := by omega
  have hB1 : Below w.heap.size w w1 := below_seq (by repeat (first | exact Below.refl _ _ | refine balloc ?_ _ | refine Below.drew ?_ | refine below_drewN ?_ _ | refine below_set ?_ (by first | omega | (dsimp only; omega)) _)) hb
  clear hb
  go_wp2
  go_ret
  exact ⟨rfl, (by repeat (first | exact hB1 | exact Below.refl _ _ | refine balloc ?_ _ | refine Below.drew ?_ | refine below_drewN ?_ _ | refine below_set ?_ (by first | omega | (dsimp only; omega)) _))⟩
set_option maxHeartbeats 1000000 in
theorem right_ns (R : Sp) (S : Int) (w : World) (hF : FarAt w) (hR : Ok R) (h : ¬ (0 ≤ S ∧ S < 1013)) : Calls Tryd.prog 99 #[slV R S] w fun e w' => e = .returned (.iface 118 (.int .i64 1)) ∧ Below w.heap.size w w' := by
  go_enter Tryd.func99, Tryd.ntmps99
  go_wp2_with fail
  refine (check_ok R _ (hF.below (by repeat (first | exact Below.refl _ _ | refine balloc ?_ _ | refine Below.drew ?_ | refine below_drewN ?_ _ | refine below_set ?_ (by first | omega | (dsimp only; omega)) _))) hR).mono ?_; rintro e w1 ⟨rfl, hb⟩
  obtain ⟨hc1, hf1⟩ := bcell hb
  have z1 := hb.size
  try simp only [World.size_alloc, World.size_setCell, World.size_drew] at z1
  have s1_0 : w.heap.size < w1.heap.size := by omega
  have hB1 : Below w.heap.size w w1 := below_seq (by repeat (first | exact Below.refl _ _ | refine balloc ?_ _ | refine Below.drew ?_ | refine below_drewN ?_ _ | refine below_set ?_ (by first | omega | (dsimp only; omega)) _)) hb
  clear hb
  go_wp2_with fail
  refine (rest_n S _ h).mono ?_; rintro e w' ⟨rfl, rfl⟩
  go_wp2
  go_ret
  exact ⟨rfl, (by repeat (first | exact hB1 | exact Below.refl _ _ | refine balloc ?_ _ | refine Below.drew ?_ | refine below_drewN ?_ _ | refine below_set ?_ (by first | omega | (dsimp only; omega)) _))⟩
set_option maxHeartbeats 1000000 in
theorem fill_nr (R : Sp) (S t n : Int) (w : World) (hF : FarAt w) (hr : Hid (∀ w : World, FarAt w → Calls Tryd.prog 99 #[slV R S] w fun e w' => e = .returned (.iface 118 (.int .i64 n)) ∧ Below w.heap.size w w')) : Calls Tryd.prog 41 #[slV R S, .int .i64 t] w fun e w' => e = .returned (.tuple #[slV ⟨0, 0, false⟩ 0, .iface 118 (.int .i64 n)]) ∧ Below w.heap.size w w' := by
  go_enter Tryd.func41, Tryd.ntmps41
  go_wp2_with fail
  refine (hr.out _ (hF.below (by repeat (first | exact Below.refl _ _ | refine balloc ?_ _ | refine Below.drew ?_ | refine below_drewN ?_ _ | refine below_set ?_ (by first | omega | (dsimp only; omega)) _)))).mono ?_; rintro e w1 ⟨rfl, hb⟩
  obtain ⟨hc1, hf1⟩ := bcell hb
  have z1 := hb.size
  try simp only [World.size_alloc, World.size_setCell, World.size_drew] at z1
  have s1_0 : w.heap.size < w1.heap.size := by omega
  have s1_1 : w.heap.size + 1 < w1.heap.size := by omega
  have hB1 : Below w.heap.size w w1 := below_seq (by repeat (first | exact Below.refl _ _ | refine balloc ?_ _ | refine Below.drew ?_ | refine below_drewN ?_ _ | refine below_set ?_ (by first | omega | (dsimp only; omega)) _)) hb
  clear hb
  have r0 : w1.cell? ⟨w.heap.size + 1, 0, none⟩ = some (.int .i64 0) := by go_simp
  have r1 : w1.cell? ⟨w.heap.size + 1, 1, none⟩ = some (.int .i64 0) := by go_simp
  have r2 : w1.cell? ⟨w.heap.size + 1, 2, none⟩ = some (.bool false) := by go_simp
  have r3 : w1.cell? ⟨w.heap.size + 1, 3, none⟩ = some (.int .i64 0) := by go_simp
  go_wp2
  have k := set4_cell (w := w1) (x := .int .i64 0) (y := .int .i64 0) (z := .bool false) (p := .int .i64 0) r0 r1 r2 r3
  refine bodyPost_ret (v := .tuple #[slV ⟨0, 0, false⟩ 0, .iface 118 (.int .i64 n)]) (by simp [results, Tryd.results41, go_sem, k.1, k.2.1, k.2.2.1, k.2.2.2]) rfl ⟨rfl, set4_below (by repeat (first | exact hB1 | exact Below.refl _ _ | refine balloc ?_ _ | refine Below.drew ?_ | refine below_drewN ?_ _ | refine below_set ?_ (by first | omega | (dsimp only; omega)) _)) (by omega)⟩
set_option maxHeartbeats 1000000 in
theorem find2_n1 (R Q : Sp) (S T n : Int) (w : World) (hF : FarAt w) (hn : Hid (sCheck R = n)) (h0 : n ≠ 0) : Calls Tryd.prog 43 #[slV R S, slV Q T] w fun e w' => e = .returned (.tuple #[.int .i64 0, .iface 118 (.int .i64 n)]) ∧ Below w.heap.size w w' := by
  go_enter Tryd.func43, Tryd.ntmps43
  go_wp2_with fail
  refine (all_v [R, Q] _ 0 2 _ (hF.below (by repeat (first | exact Below.refl _ _ | refine balloc ?_ _ | refine Below.drew ?_ | refine below_drewN ?_ _ | refine below_set ?_ (by first | omega | (dsimp only; omega)) _))) (by simp) (spots_two R Q _ _ (by simp) (by go_simp) (by go_simp) (by go_simp) (by go_simp) (by go_simp) (by go_simp)) 0 (by simp) n (none_ok _) hn h0).mono ?_; rintro e w1 ⟨rfl, hb⟩
  obtain ⟨hc1, hf1⟩ := bcell hb
  have z1 := hb.size
  try simp only [World.size_alloc, World.size_setCell, World.size_drew] at z1
  have s1_0 : w.heap.size < w1.heap.size := by omega
  have s1_1 : w.heap.size + 1 < w1.heap.size := by omega
  have s1_2 : w.heap.size + 1 + 1 < w1.heap.size := by omega
  have hB1 : Below w.heap.size w w1 := below_seq (by repeat (first | exact Below.refl _ _ | refine balloc ?_ _ | refine Below.drew ?_ | refine below_drewN ?_ _ | refine below_set ?_ (by first | omega | (dsimp only; omega)) _)) hb
  clear hb
  go_wp2
  go_ret2
  exact ⟨rfl, (by repeat (first | exact hB1 | exact Below.refl _ _ | refine balloc ?_ _ | refine Below.drew ?_ | refine below_drewN ?_ _ | refine below_set ?_ (by first | omega | (dsimp only; omega)) _))⟩
set_option maxHeartbeats 1000000 in
theorem find2_n2 (R Q : Sp) (S T n : Int) (w : World) (hF : FarAt w) (hR : Ok R) (hn : Hid (sCheck Q = n)) (h0 : n ≠ 0) : Calls Tryd.prog 43 #[slV R S, slV Q T] w fun e w' => e = .returned (.tuple #[.int .i64 0, .iface 118 (.int .i64 n)]) ∧ Below w.heap.size w w' := by
  go_enter Tryd.func43, Tryd.ntmps43
  go_wp2_with fail
  refine (all_v [R, Q] _ 0 2 _ (hF.below (by repeat (first | exact Below.refl _ _ | refine balloc ?_ _ | refine Below.drew ?_ | refine below_drewN ?_ _ | refine below_set ?_ (by first | omega | (dsimp only; omega)) _))) (by simp) (spots_two R Q _ _ (by simp) (by go_simp) (by go_simp) (by go_simp) (by go_simp) (by go_simp) (by go_simp)) 1 (by simp) n (one_ok _ _ hR) hn h0).mono ?_; rintro e w1 ⟨rfl, hb⟩
  obtain ⟨hc1, hf1⟩ := bcell hb
  have z1 := hb.size
  try simp only [World.size_alloc, World.size_setCell, World.size_drew] at z1
  have s1_0 : w.heap.size < w1.heap.size := by omega
  have s1_1 : w.heap.size + 1 < w1.heap.size := by omega
  have s1_2 : w.heap.size + 1 + 1 < w1.heap.size := by omega
  have hB1 : Below w.heap.size w w1 := below_seq (by repeat (first | exact Below.refl _ _ | refine balloc ?_ _ | refine Below.drew ?_ | refine below_drewN ?_ _ | refine below_set ?_ (by first | omega | (dsimp only; omega)) _)) hb
  clear hb
  go_wp2
  go_ret2
  exact ⟨rfl, (by repeat (first | exact hB1 | exact Below.refl _ _ | refine balloc ?_ _ | refine Below.drew ?_ | refine below_drewN ?_ _ | refine below_set ?_ (by first | omega | (dsimp only; omega)) _))⟩
set_option maxHeartbeats 1000000 in
theorem find2_n3 (R Q : Sp) (S T : Int) (w : World) (hF : FarAt w) (hR : Ok R) (hQ : Ok Q) (h : ¬ (0 ≤ S ∧ S < 1013)) : Calls Tryd.prog 43 #[slV R S, slV Q T] w fun e w' => e = .returned (.tuple #[.int .i64 0, .iface 118 (.int .i64 1)]) ∧ Below w.heap.size w w' := by
  go_enter Tryd.func43, Tryd.ntmps43
  go_wp2_with fail
  refine (all_ok [R, Q] _ 0 2 _ (hF.below (by repeat (first | exact Below.refl _ _ | refine balloc ?_ _ | refine Below.drew ?_ | refine below_drewN ?_ _ | refine below_set ?_ (by first | omega | (dsimp only; omega)) _))) (by simp) (spots_two R Q _ _ (by simp) (by go_simp) (by go_simp) (by go_simp) (by go_simp) (by go_simp) (by go_simp)) (ok_two hR hQ)).mono ?_; rintro e w1 ⟨rfl, hb⟩
  obtain ⟨hc1, hf1⟩ := bcell hb
  have z1 := hb.size
  try simp only [World.size_alloc, World.size_setCell, World.size_drew] at z1
  have s1_0 : w.heap.size < w1.heap.size := by omega
  have s1_1 : w.heap.size + 1 < w1.heap.size := by omega
  have s1_2 : w.heap.size + 1 + 1 < w1.heap.size := by omega
  have hB1 : Below w.heap.size w w1 := below_seq (by repeat (first | exact Below.refl _ _ | refine balloc ?_ _ | refine Below.drew ?_ | refine below_drewN ?_ _ | refine below_set ?_ (by first | omega | (dsimp only; omega)) _)) hb
  clear hb
  go_wp2_with fail
  refine (rest_n S _ h).mono ?_; rintro e w' ⟨rfl, rfl⟩
  go_wp2
  go_ret2
  exact ⟨rfl, (by repeat (first | exact hB1 | exact Below.refl _ _ | refine balloc ?_ _ | refine Below.drew ?_ | refine below_drewN ?_ _ | refine below_set ?_ (by first | omega | (dsimp only; omega)) _))⟩
set_option maxHeartbeats 1000000 in
theorem find2_n4 (R Q : Sp) (S T : Int) (w : World) (hF : FarAt w) (hR : Ok R) (hQ : Ok Q) (s0 : 0 ≤ S) (s1 : S < 1013) (h : ¬ (0 ≤ T ∧ T < 1013)) : Calls Tryd.prog 43 #[slV R S, slV Q T] w fun e w' => e = .returned (.tuple #[.int .i64 0, .iface 118 (.int .i64 1)]) ∧ Below w.heap.size w w' := by
  go_enter Tryd.func43, Tryd.ntmps43
  go_wp2_with fail
  refine (all_ok [R, Q] _ 0 2 _ (hF.below (by repeat (first | exact Below.refl _ _ | refine balloc ?_ _ | refine Below.drew ?_ | refine below_drewN ?_ _ | refine below_set ?_ (by first | omega | (dsimp only; omega)) _))) (by simp) (spots_two R Q _ _ (by simp) (by go_simp) (by go_simp) (by go_simp) (by go_simp) (by go_simp) (by go_simp)) (ok_two hR hQ)).mono ?_; rintro e w1 ⟨rfl, hb⟩
  obtain ⟨hc1, hf1⟩ := bcell hb
  have z1 := hb.size
  try simp only [World.size_alloc, World.size_setCell, World.size_drew] at z1
  have s1_0 : w.heap.size < w1.heap.size := by omega
  have s1_1 : w.heap.size + 1 < w1.heap.size := by omega
  have s1_2 : w.heap.size + 1 + 1 < w1.heap.size := by omega
  have hB1 : Below w.heap.size w w1 := below_seq (by repeat (first | exact Below.refl _ _ | refine balloc ?_ _ | refine Below.drew ?_ | refine below_drewN ?_ _ | refine below_set ?_ (by first | omega | (dsimp only; omega)) _)) hb
  clear hb
  go_wp2_with fail
  refine (rest_y S _ s0 s1).mono ?_; rintro e w' ⟨rfl, rfl⟩
  go_wp2_with fail
  refine (rest_n T _ h).mono ?_; rintro e w' ⟨rfl, rfl⟩
  go_wp2
  go_ret2
  exact ⟨rfl, (by repeat (first | exact hB1 | exact Below.refl _ _ | refine balloc ?_ _ | refine Below.drew ?_ | refine below_drewN ?_ _ | refine below_set ?_ (by first | omega | (dsimp only; omega)) _))⟩
end Go.Proofs.YtfnifdmnbccblaaDoor
namespace Go.Proofs.YtfnifdmnbccblaaDoor
open Go.RowKit
set_option maxRecDepth 100000
set_option linter.unusedVariables false
set_option linter.unusedSimpArgs false
theorem ad_pre (x k : Int) (T : Sp) (text : ByteArray) (hz : text.size ≤ 140737488351232) : ∃ (E1 E2 : Int) (B4 : Bool) (Z K : Sp) (Y c : Int),
    (((!(secB x && secB k)) = true ∧ E1 = 1) ∨ ((!(secB x && secB k)) = false ∧ sCheck T = E1)) ∧ ((E1 = 0 ∧ 60 < text.size ∧ B4 = true) ∨ (E1 = 0 ∧ text.size ≤ 60 ∧ B4 = false) ∨ ((E1 == 0) = false ∧ B4 = false)) ∧ ((B4 = true ∧ E2 = 4) ∨ (B4 = false ∧ E2 = E1)) ∧
    ((E2 = 0 ∧ 1 ≤ x ∧ x < 1013 ∧ 1 ≤ k ∧ k < 1013 ∧ text.size ≤ 60 ∧ (∀ w : World, Calls Tryd.prog 29 #[.int .i64 k, .int .i64 1, spV T] w fun e w' => e = .returned (spV Z) ∧ Below w.heap.size w w') ∧ sq (4 * x) = K ∧ Ok Z ∧ Ok K ∧ askN Z K text.data.toList = c ∧ 0 ≤ c * x ∧ c * x ≤ 1024144 ∧ (k + c * x) % 1013 = Y) ∨ ((E2 == 0) = false ∧ Z = ⟨0, 0, false⟩ ∧ Y = 0)) ∧
    (∀ w : World, FarAt w → Calls Tryd.prog 38 #[.int .i64 x, .int .i64 k, spV T, .string text] w fun e w' => e = .returned (.tuple #[slV Z Y, errV E2]) ∧ Below w.heap.size w w') := by
  by_cases h1 : 1 ≤ x ∧ x < 1013
  · have b1 : secB x = true := decide_eq_true h1
    by_cases h2 : 1 ≤ k ∧ k < 1013
    · have b2 : secB k = true := decide_eq_true h2
      by_cases h3 : sCheck T = 0
      · by_cases h4 : 60 < text.size
        · exact ⟨0, 4, true, _, ⟨0, 0, false⟩, _, 0, .inr ⟨by rw [b1, b2]; rfl, h3⟩, .inl ⟨rfl, h4, rfl⟩, .inl ⟨rfl, rfl⟩, .inr ⟨rfl, rfl, rfl⟩, fun w hF => pre_n3 x k T text w hF h1.1 h1.2 h2.1 h2.2 ((ok_iff _).mp h3) h4 hz⟩
        · obtain ⟨u, -, -, eu⟩ := sq_all ((ok_iff _).mp h3)
          have bd := askN_bd (sq (4 * k + u)) (sq (4 * x)) text.data.toList
          have m := mul_q bd.1 bd.2 h1.1 h1.2
          refine ⟨0, 0, false, sq (4 * k + u), _, _, _, .inr ⟨by rw [b1, b2]; rfl, h3⟩, .inr (.inl ⟨rfl, by omega, rfl⟩), .inr ⟨rfl, rfl⟩, .inl ⟨rfl, h1.1, h1.2, h2.1, h2.2, by omega, fun w => ?_, rfl, sq_ok _, sq_ok _, rfl, m.1, m.2, rfl⟩, fun w hF => pre_e x k u T _ _ _ _ text w hF h1.1 h1.2 h2.1 h2.2 (by omega) (Lib.hid eu) (Lib.hid rfl) (Lib.hid rfl) (Lib.hid rfl) (Lib.hid rfl)⟩
          exact refSum_e k 1 u T (sq (4 * k)) (sq (u * 1)) _ w (by omega) (by omega) (by omega) (by omega) (Lib.hid eu) (Lib.hid rfl) (Lib.hid rfl) (sq_ok _) (sq_ok _) (Lib.hid (by rw [sq_add, Int.mul_one]))
      · exact ⟨_, _, false, _, ⟨0, 0, false⟩, _, 0, .inr ⟨by rw [b1, b2]; rfl, rfl⟩, .inr (.inr ⟨by simpa using h3, rfl⟩), .inr ⟨rfl, rfl⟩, .inr ⟨by simpa using h3, rfl, rfl⟩, fun w hF => by rw [errV, if_neg h3]; exact pre_nt x k _ T text w hF h1.1 h1.2 h2.1 h2.2 (Lib.hid rfl) h3⟩
    · have b2 : secB k = false := decide_eq_false h2
      exact ⟨1, 1, false, _, ⟨0, 0, false⟩, _, 0, .inl ⟨by rw [b1, b2]; rfl, rfl⟩, .inr (.inr ⟨rfl, rfl⟩), .inr ⟨rfl, rfl⟩, .inr ⟨rfl, rfl, rfl⟩, fun w _ => pre_n2 x k T text w h1.1 h1.2 h2⟩
  · have b1 : secB x = false := decide_eq_false h1
    exact ⟨1, 1, false, _, ⟨0, 0, false⟩, _, 0, .inl ⟨by rw [b1]; rfl, rfl⟩, .inr (.inr ⟨rfl, rfl⟩), .inr ⟨rfl, rfl⟩, .inr ⟨rfl, rfl, rfl⟩, fun w _ => pre_n1 x k T text w h1⟩
theorem ad_chk (T key P : Sp) (PS : Int) (text : ByteArray) (hz : text.size ≤ 140737488351232) : ∃ (E4 : Int) (RT : Bool),
    ((sealF key P PS text.size = 0 ∧ sCheck T = E4) ∨ ((sealF key P PS text.size == 0) = false ∧ E4 = sealF key P PS text.size)) ∧
    ((E4 = 0 ∧ (∀ w : World, Calls Tryd.prog 33 #[spV key, .string text, slV P PS, spV T] w fun e w' => e = .returned (.bool RT) ∧ Below w.heap.size w w')) ∨ ((E4 == 0) = false ∧ RT = false)) ∧
    (∀ w : World, FarAt w → Calls Tryd.prog 39 #[spV key, spV T, .string text, slV P PS] w fun e w' => e = .returned (.tuple #[.bool RT, errV E4]) ∧ Below w.heap.size w w') := by
  by_cases h : sealF key P PS text.size = 0
  · obtain ⟨z0, ok, oR, s0, s1⟩ := sealF_zero h
    by_cases h3 : sCheck T = 0
    · obtain ⟨a, -, -, ea⟩ := sq_all ok
      obtain ⟨b, -, -, eb⟩ := sq_all oR
      obtain ⟨u, -, -, eu⟩ := sq_all ((ok_iff _).mp h3)
      exact ⟨0, _, .inl ⟨h, h3⟩, .inl ⟨rfl, fun w => rRight_e key P T a b u _ PS _ text w z0 s0 s1 (Lib.hid ea) (Lib.hid eb) (Lib.hid eu) (Lib.hid rfl) (Lib.hid rfl)⟩, fun w hF => acheck_e key T P a b u _ PS _ text w hF z0 s0 s1 (Lib.hid ea) (Lib.hid eb) (Lib.hid eu) (Lib.hid rfl) (Lib.hid rfl)⟩
    · exact ⟨_, false, .inl ⟨h, rfl⟩, .inr ⟨by simpa using h3, rfl⟩, fun w hF => by rw [errV, if_neg h3]; exact acheck_nt key T P PS _ text w hF z0 ok oR s0 s1 (Lib.hid rfl) h3⟩
  · exact ⟨_, false, .inr ⟨by simpa using h, rfl⟩, .inr ⟨by simpa using h, rfl⟩, fun w hF => by rw [errV, if_neg h]; exact acheck_n key T P PS _ text w hF hz (Lib.hid rfl) h⟩
theorem ad_fill (P : Sp) (PS n : Int) : ∃ (B7 : Bool) (E6 : Int) (Z2 : Sp) (Y2 : Int),
    ((sCheck P = 0 ∧ resB PS = true ∧ resB n = true ∧ B7 = false) ∨ (sCheck P = 0 ∧ resB PS = true ∧ resB n = false ∧ B7 = true) ∨ (sCheck P = 0 ∧ resB PS = false ∧ B7 = true) ∨ ((sCheck P == 0) = false ∧ B7 = false)) ∧ ((B7 = true ∧ E6 = 1) ∨ (B7 = false ∧ E6 = sCheck P)) ∧
    ((E6 = 0 ∧ 0 ≤ PS ∧ PS < 1013 ∧ 0 ≤ n ∧ n < 1013 ∧ P = Z2 ∧ (PS + n) % 1013 = Y2) ∨ ((E6 == 0) = false ∧ Z2 = ⟨0, 0, false⟩ ∧ Y2 = 0)) ∧
    (∀ w : World, FarAt w → Calls Tryd.prog 41 #[slV P PS, .int .i64 n] w fun e w' => e = .returned (.tuple #[slV Z2 Y2, errV E6]) ∧ Below w.heap.size w w') := by
  by_cases h : sCheck P = 0
  · have oP := (ok_iff _).mp h
    by_cases h1 : 0 ≤ PS ∧ PS < 1013
    · have b1 : resB PS = true := decide_eq_true h1
      by_cases h2 : 0 ≤ n ∧ n < 1013
      · have b2 : resB n = true := decide_eq_true h2
        exact ⟨false, 0, _, _, .inl ⟨h, b1, b2, rfl⟩, .inr ⟨rfl, h.symm⟩, .inl ⟨rfl, h1.1, h1.2, h2.1, h2.2, rfl, rfl⟩, fun w hF => fill_y P PS n _ w hF oP h1.1 h1.2 h2.1 h2.2 rfl⟩
      · have b2 : resB n = false := decide_eq_false h2
        exact ⟨true, 1, _, _, .inr (.inl ⟨h, b1, b2, rfl⟩), .inl ⟨rfl, rfl⟩, .inr ⟨rfl, rfl, rfl⟩, fun w hF => fill_n P PS n w hF oP h1.1 h1.2 h2⟩
    · have b1 : resB PS = false := decide_eq_false h1
      exact ⟨true, 1, _, _, .inr (.inr (.inl ⟨h, b1, rfl⟩)), .inl ⟨rfl, rfl⟩, .inr ⟨rfl, rfl, rfl⟩, fun w hF => fill_nr P PS n 1 w hF (Lib.hid fun w hF => right_ns P PS w hF oP h1)⟩
  · exact ⟨false, _, _, _, .inr (.inr (.inr ⟨by simpa using h, rfl⟩)), .inr ⟨rfl, rfl⟩, .inr ⟨by simpa using h, rfl, rfl⟩, fun w hF => by rw [errV, if_neg h]; exact fill_nr P PS n _ w hF (Lib.hid fun w hF => right_nr P PS _ w hF (Lib.hid rfl) h)⟩
theorem ad_find (P Q : Sp) (PS QS : Int) : ∃ (E7 E8 E9 : Int) (B9 C1 : Bool) (M : Int),
    ((sCheck P = 0 ∧ sCheck Q = E7) ∨ ((sCheck P == 0) = false ∧ E7 = sCheck P)) ∧ ((E7 = 0 ∧ resB PS = true ∧ resB QS = true ∧ B9 = false) ∨ (E7 = 0 ∧ resB PS = true ∧ resB QS = false ∧ B9 = true) ∨ (E7 = 0 ∧ resB PS = false ∧ B9 = true) ∨ ((E7 == 0) = false ∧ B9 = false)) ∧ ((B9 = true ∧ E8 = 1) ∨ (B9 = false ∧ E8 = E7)) ∧
    ((E8 = 0 ∧ Sp.beq P Q = true ∧ C1 = false) ∨ (E8 = 0 ∧ Sp.beq P Q = false ∧ C1 = true) ∨ ((E8 == 0) = false ∧ C1 = false)) ∧ ((C1 = true ∧ E9 = 3) ∨ (C1 = false ∧ E9 = E8)) ∧ ((E9 = 0 ∧ 0 ≤ PS ∧ PS < 1013 ∧ 0 ≤ QS ∧ QS < 1013 ∧ (QS - PS) % 1013 = M) ∨ ((E9 == 0) = false ∧ M = 0)) ∧
    (∀ w : World, FarAt w → Calls Tryd.prog 43 #[slV P PS, slV Q QS] w fun e w' => e = .returned (.tuple #[.int .i64 M, errV E9]) ∧ Below w.heap.size w w') := by
  by_cases h : sCheck P = 0
  · have oP := (ok_iff _).mp h
    by_cases hq : sCheck Q = 0
    · have oQ := (ok_iff _).mp hq
      by_cases h1 : 0 ≤ PS ∧ PS < 1013
      · have b1 : resB PS = true := decide_eq_true h1
        by_cases h2 : 0 ≤ QS ∧ QS < 1013
        · have b2 : resB QS = true := decide_eq_true h2
          cases hb : Sp.beq P Q
          · exact ⟨0, 0, 3, false, true, 0, .inl ⟨h, hq⟩, .inl ⟨rfl, b1, b2, rfl⟩, .inr ⟨rfl, rfl⟩, .inr (.inl ⟨rfl, rfl, rfl⟩), .inl ⟨rfl, rfl⟩, .inr ⟨rfl, rfl⟩, fun w hF => find2_n P Q PS QS w hF oP oQ hb h1.1 h1.2 h2.1 h2.2⟩
          · have hPQ : P = Q := Sp.beq_iff.mp hb
            exact ⟨0, 0, 0, false, false, _, .inl ⟨h, hq⟩, .inl ⟨rfl, b1, b2, rfl⟩, .inr ⟨rfl, rfl⟩, .inl ⟨rfl, rfl, rfl⟩, .inr ⟨rfl, rfl⟩, .inl ⟨rfl, h1.1, h1.2, h2.1, h2.2, rfl⟩, fun w hF => by rw [← hPQ]; exact find2_y P PS QS _ w hF oP h1.1 h1.2 h2.1 h2.2 (by omega)⟩
        · have b2 : resB QS = false := decide_eq_false h2
          exact ⟨0, 1, 1, true, false, 0, .inl ⟨h, hq⟩, .inr (.inl ⟨rfl, b1, b2, rfl⟩), .inl ⟨rfl, rfl⟩, .inr (.inr ⟨rfl, rfl⟩), .inr ⟨rfl, rfl⟩, .inr ⟨rfl, rfl⟩, fun w hF => find2_n4 P Q PS QS w hF oP oQ h1.1 h1.2 h2⟩
      · have b1 : resB PS = false := decide_eq_false h1
        exact ⟨0, 1, 1, true, false, 0, .inl ⟨h, hq⟩, .inr (.inr (.inl ⟨rfl, b1, rfl⟩)), .inl ⟨rfl, rfl⟩, .inr (.inr ⟨rfl, rfl⟩), .inr ⟨rfl, rfl⟩, .inr ⟨rfl, rfl⟩, fun w hF => find2_n3 P Q PS QS w hF oP oQ h1⟩
    · exact ⟨_, _, _, false, false, 0, .inl ⟨h, rfl⟩, .inr (.inr (.inr ⟨by simpa using hq, rfl⟩)), .inr ⟨rfl, rfl⟩, .inr (.inr ⟨by simpa using hq, rfl⟩), .inr ⟨rfl, rfl⟩, .inr ⟨by simpa using hq, rfl⟩, fun w hF => by rw [errV, if_neg hq]; exact find2_n2 P Q PS QS _ w hF oP (Lib.hid rfl) hq⟩
  · exact ⟨_, _, _, false, false, 0, .inr ⟨by simpa using h, rfl⟩, .inr (.inr (.inr ⟨by simpa using h, rfl⟩)), .inr ⟨rfl, rfl⟩, .inr (.inr ⟨by simpa using h, rfl⟩), .inr ⟨rfl, rfl⟩, .inr ⟨by simpa using h, rfl⟩, fun w hF => by rw [errV, if_neg h]; exact find2_n1 P Q PS QS _ w hF (Lib.hid rfl) h⟩
theorem adaptTells_law (x : Int) (hx : (Lit.int .i64 x).wf = true) (k : Int) (hk : (Lit.int .i64 k).wf = true) (T : Sp) (text : ByteArray) (hz : text.size ≤ 140737488351232) (key P : Sp) (PS : Int) (Q : Sp) (QS : Int) (n : Int) (hn : (Lit.int .i64 n).wf = true) (w : World) (hL : FarAt w ∧ ErrAt w) :
    Calls Tryd.prog 6 #[.int .i64 x, .int .i64 k, spV T, .string text, spV key, slV P PS, slV Q QS, .int .i64 n] w fun e w' => e = .returned (.bool true) ∧ Below w.heap.size w w' := by
  obtain ⟨E1, E2, B4, Z, K, Y, c, p1, p2, p3, p4, p5⟩ := ad_pre x k T text hz
  obtain ⟨E4, RT, q1, q2, q3⟩ := ad_chk T key P PS text hz
  obtain ⟨B7, E6, Z2, Y2, r1, r2, r3, r4⟩ := ad_fill P PS n
  obtain ⟨E7, E8, E9, B9, C1, M, t1, t2, t3, t4, t5, t6, t7⟩ := ad_find P Q PS QS
  exact al_all x k T text key P PS Q QS n w hL.1 hL.2 hz (wf64 hn).1 (wf64 hn).2 _ _ _ B4 _ _ B7 _ B9 C1 (Lib.hid rfl) (Lib.hid rfl) (Lib.hid rfl) E1 E2 _ E4 _ E6 E7 E8 E9 (Lib.hid p1) (Lib.hid p2) (Lib.hid p3) Z K Y c (Lib.hid p4) (Lib.hid p5) (Lib.hid fun w => rSeal_e key P PS _ text w hz (Lib.hid rfl)) (Lib.hid q1) RT (Lib.hid q2) (Lib.hid q3) (Lib.hid rfl) (Lib.hid rfl) (Lib.hid rfl) (Lib.hid r1) (Lib.hid r2) Z2 Y2 (Lib.hid r3) (Lib.hid r4) (Lib.hid t1) (Lib.hid rfl) (Lib.hid t2) (Lib.hid t3) (Lib.hid t4) (Lib.hid t5) M (Lib.hid t6) (Lib.hid t7)
end Go.Proofs.YtfnifdmnbccblaaDoor
namespace Go.Proofs.YtfnifdmnbccblaaDoor
open Go.ChangeShapes Go.WideShapes Go.ChangeAt Go.WideMaps Go.WideElems Go.RowKit
set_option maxRecDepth 100000
abbrev farLaid : List (String × DataW Unit) := [("pairstone/curve.Far", Rows.laid_pairstone_curve_Far)]
theorem gFar : Tryd.prog.globalNamed "pairstone/curve.Far" = some 0 := by kernel_rfl
theorem tFar : (Tryd.prog.globals[0]?).map (·.type) = some 25 := by kernel_rfl
/-- The door's own heap meets the condition. -/
theorem farLaid_met (os : Os) (args : Array Value) : laidMetH Tryd.prog farLaid ((World.doorLaid Tryd.prog 400 os).forCall (fun _ _ => 0) ⟨#[], args, []⟩).memory :=
  laidMetH_of_parts3 (fuel := 8) (laidMet_of_run' 8 (by kernel_rfl) (by kernel_rfl)) (by kernel_rfl) (by kernel_rfl)
theorem lt_of_cell {w : World} {b o : Nat} {v : Value} (h : w.cell? ⟨b, o, none⟩ = some v) : b < w.heap.size := by
  rcases Nat.lt_or_ge b w.heap.size with h1 | h1
  · exact h1
  · simp [World.cell?, Array.getElem?_eq_none h1] at h
theorem farLaid_at {W : World} (h : laidMetH Tryd.prog farLaid W) : FarAt W := by
  rw [MakeChecks.laidMetH_plain _ _ _ (by kernel_rfl)] at h
  obtain ⟨ps, ⟨g0, t0, cs0, f0, p0, q0, hg0, ht0, hv0, hd0, _, _⟩, _, _⟩ := h
  obtain rfl := Option.some.inj (gFar.symm.trans hg0)
  obtain rfl := Option.some.inj (tFar.symm.trans ht0)
  obtain ⟨y0, y1, y2, n, hx, hlen, h0, h1, h2⟩ := Deep.trod_struct3 Tryd.underlying25 hd0
  simp only [Rows.laid_pairstone_curve_Far, Prod.mk.injEq, DataW.agg.injEq, List.cons.injEq, and_true] at hx
  obtain ⟨⟨e0, e1, e2⟩, _⟩ := hx
  obtain ⟨a, c0, rfl, _⟩ := DataW.trod_int Tryd.underlying3 h0
  obtain ⟨b, c1, rfl, _⟩ := DataW.trod_int Tryd.underlying3 h1
  obtain ⟨f, c2, rfl⟩ := DataW.trod_bool Tryd.underlying4 h2
  have k3 : Tryd.prog.cellsOf 25 = 3 := by kernel_rfl
  have ki : Tryd.prog.cellsOf 3 = 1 := by kernel_rfl
  have kb : Tryd.prog.cellsOf 4 = 1 := by kernel_rfl
  obtain ⟨l⟩ := cs0
  have h3 : l.length = 3 := by simpa using hlen.trans k3
  match l, h3 with
  | [x, y, z], _ =>
    simp [ki, kb] at c0 c1 c2
    subst c0 c1 c2
    have v0 := World.var?_cell hg0 hv0 0
    have v1 := World.var?_cell hg0 hv0 1
    have v2 := World.var?_cell hg0 hv0 2
    simp at e0 e1 e2 v0 v1 v2
    subst e0 e1 e2
    exact ⟨v0, v1, v2, lt_of_cell v0⟩
end Go.Proofs.YtfnifdmnbccblaaDoor
namespace Go.Proofs.YtfnifdmnbccblaaDoor
open Go.ChangeShapes Go.WideShapes Go.ChangeAt Go.WideMaps Go.WideElems Go.RowKit
set_option maxRecDepth 100000
theorem gErr : Tryd.prog.globalNamed "errors.errorType" = some 2 := by kernel_rfl
theorem cutR : (Tryd.prog.cutTypes.find? (·.1 == "internal/reflectlite.rtype")).map (·.2) = some 183 := by kernel_rfl
theorem rowError : ((List.range Tryd.prog.types.size).filter fun t => Tryd.prog.rowNamed t [101, 114, 114, 111, 114]) = [27] := by kernel_rfl
/-- What the condition on the variable says of its cell. -/
theorem err_of_handles {l : List (String × DataW Unit)} {W : World} (h : handlesMet Tryd.prog l W) (hm : ("errors.errorType", Rows.laid_errors_errorType) ∈ l) : ErrAt W := by
  obtain ⟨name, u, ty, e1, e2, e3, e4, e5⟩ := h _ hm
  have en : name = [101, 114, 114, 111, 114] := (Option.some.inj e1).symm
  subst en
  obtain rfl := Option.some.inj (cutR.symm.trans e2)
  have hm : ty ∈ (List.range Tryd.prog.types.size).filter fun t => Tryd.prog.rowNamed t [101, 114, 114, 111, 114] := List.mem_filter.2 ⟨List.mem_range.2 e3, e4⟩
  rw [rowError] at hm
  obtain rfl := List.mem_singleton.1 hm
  have hh : typeHandle Tryd.prog 27 = .pointer (some ⟨3, 27, none⟩) := by kernel_rfl
  rw [hh] at e5
  have v := World.var?_cell gErr e5 0
  simp at v
  exact ⟨v, lt_of_cell v⟩
abbrev errLaid : List (String × DataW Unit) := [("errors.errorType", Rows.laid_errors_errorType)]
abbrev farErrLaid : List (String × DataW Unit) := [("pairstone/curve.Far", Rows.laid_pairstone_curve_Far), ("errors.errorType", Rows.laid_errors_errorType)]
theorem errLaid_met (os : Os) (args : Array Value) : laidMetH Tryd.prog errLaid ((World.doorLaid Tryd.prog 400 os).forCall (fun _ _ => 0) ⟨#[], args, []⟩).memory :=
  laidMetH_of_parts ⟨[], rfl, List.nodup_nil, fun _ _ h => by cases h⟩ (by kernel_rfl)
theorem farErrLaid_met (os : Os) (args : Array Value) : laidMetH Tryd.prog farErrLaid ((World.doorLaid Tryd.prog 400 os).forCall (fun _ _ => 0) ⟨#[], args, []⟩).memory :=
  laidMetH_of_parts (laidMet_of_run' 8 (by kernel_rfl) (by kernel_rfl)) (by kernel_rfl)
theorem errLaid_at {W : World} (h : laidMetH Tryd.prog errLaid W) : ErrAt W := by
  have h' : laidMet Tryd.prog [] W ∧ handlesMet Tryd.prog errLaid W := h
  exact err_of_handles h'.2 (by simp)
theorem farErrLaid_at {W : World} (h : laidMetH Tryd.prog farErrLaid W) : FarAt W ∧ ErrAt W := by
  have h' : laidMet Tryd.prog farLaid W ∧ handlesMet Tryd.prog errLaid W := h
  exact ⟨farLaid_at (by rw [MakeChecks.laidMetH_plain _ _ _ (by kernel_rfl)]; exact h'.1), err_of_handles h'.2 (by simp)⟩
end Go.Proofs.YtfnifdmnbccblaaDoor
namespace Go.Proofs.YtfnifdmnbccblaaDoor
open Go.RowKit
set_option maxRecDepth 100000
theorem headL : ∃ l : List Char, Tryd.prog.initOrder = String.ofList l ∧ ((behindMainWord (wordsSigns l)).head? = some "cut".toList ∧
    (match wordsSigns l with
      | h :: s :: _ => if !isSumSigns s then none else if h == "harness".toList then some (true, s) else if h == "ownmain".toList then some (false, s) else none
      | _ => none) = some (true, "8bff7fe31cad154e1d9054f52751277758ee41cf373a73bb2e4a30f27c527906".toList)) := by
  refine ⟨?l, ?h1, ?h2, ?h3⟩
  case h1 =>
    unfold Tryd.prog
    first | rfl | (dsimp only; rfl)
  case h2 => kernel_rfl
  case h3 => kernel_rfl
theorem headCut : ∃ r, behindMainWord (wordsSigns Tryd.prog.initOrder.toList) = "cut".toList :: r := by
  obtain ⟨l, h, hw, -⟩ := headL
  rw [h, String.toList_ofList]
  cases e : behindMainWord (wordsSigns l) with
  | nil => rw [e] at hw; cases hw
  | cons c r => rw [e] at hw; exact ⟨r, by rw [Option.some.inj hw]⟩
theorem mainIsK : Tryd.prog.mainIs = some (true, "8bff7fe31cad154e1d9054f52751277758ee41cf373a73bb2e4a30f27c527906".toList) := by
  obtain ⟨l, h, -, hm⟩ := headL
  unfold Program.mainIs; rw [h, String.toList_ofList]; exact hm
theorem mayEnterK : Tryd.prog.mayEnter = true := by
  obtain ⟨r, h⟩ := headCut
  unfold Program.mayEnter; rw [h]; kernel_rfl
theorem headLiftsK : Tryd.prog.headLifts = [] := by
  obtain ⟨r, h⟩ := headCut
  unfold Program.headLifts; rw [h]; kernel_rfl
theorem liftsFinalK : Tryd.prog.liftsFinal = false := by
  obtain ⟨r, h⟩ := headCut
  unfold Program.liftsFinal; rw [h, headLiftsK]; kernel_rfl
theorem makeK : Tryd.prog.make = some .cut := by
  obtain ⟨r, h⟩ := headCut
  unfold Program.make; rw [h]; kernel_rfl
end Go.Proofs.YtfnifdmnbccblaaDoor
namespace Go.Proofs.YtfnifdmnbccblaaDoor.adaptTells
open Go.ChangeShapes Go.WideShapes Go.ChangeAt Go.RowKit
set_option linter.unusedVariables false
theorem typesOk : ([3, 3, 25, 9, 25, 53, 53, 3].all fun t => Tryd.prog.readableRec t && decide (t < Tryd.prog.types.size)) = true := by kernel_rfl
set_option maxRecDepth 100000 in
theorem lifted (os : Os) (started : os.Started) (H : Type) (enc : TypeId × Value → H) :
    ReturnsInHanded {} Tryd.checked os 6 .any (fun w args => (Rows.adaptTellsSpec.pre enc Tryd.prog Tryd.f6 [] false w args ∧ laidMetH Tryd.prog farErrLaid w) ∧ sizedMet enc Tryd.prog Tryd.f6 (OpenSpec.ofChange Rows.adaptTellsSpec) false w args)
      (Rows.adaptTellsSpec.post enc Tryd.prog Tryd.f6 false true false false) := by
  refine returnsInHanded_of_change_and (C := Tryd.checked) (X := fun w _ => laidMetH Tryd.prog farErrLaid w) (fun _ _ _ hh h => h.of_heap hh) Tryd.ownK started (by kernel_rfl) Tryd.func6
    (ChangeSpec.witness_shaped (enc := enc) (C := Tryd.checked) (os := os) (X := fun w _ => laidMetH Tryd.prog farErrLaid w) false (World.doorLaid Tryd.prog 400 os) #[.int .i64 0, .int .i64 0, .agg #[.int .i64 0, .int .i64 0, .bool false], .string ⟨#[]⟩, .agg #[.int .i64 0, .int .i64 0, .bool false], .agg #[.int .i64 0, .int .i64 0, .bool false, .int .i64 0], .agg #[.int .i64 0, .int .i64 0, .bool false, .int .i64 0], .int .i64 0] 8 rfl (World.shaped_of_RefB (by kernel_rfl) (by kernel_rfl)) (by kernel_rfl) (by kernel_rfl) (by kernel_rfl) (farErrLaid_met os _)) ?_
  intro W base args ds gs before hval0 hW hcnd hsz0 hL hholds
  have hval : ∀ (j : Nat) t v, Tryd.f6.params[j]? = some t → args[j]? = some v → Value.okWide Tryd.prog W .any base t v := hval0
  have hW' := hW
  obtain ⟨p, q, hA0, hV, rfl, hfz, hnd⟩ := hW
  have hA : DataW.TrodAll enc Tryd.prog W 0 (fun _ => true) true Tryd.f6.params.toList args.toList ds p := hA0
  obtain ⟨rfl, rfl⟩ := trodVars_none hV
  simp only [List.append_nil] at hW'
  have hlt : ∀ x ∈ p, x.block < W.heap.size := fun x hx => hW'.lt x hx
  have hsz : (DataW.weightsEach Tryd.prog (Tryd.f6.params.toList ++ Rows.adaptTellsSpec.plain.varTypes Tryd.prog) (ds ++ [])).all (· ≤ reachBytes) = true := hsz0
  rw [Tryd.params6] at hA hval hsz
  have hK := hA
  obtain ⟨v0, vs0, d0, ds0, p0, q0, hargs, rfl, rfl, h0, r0⟩ := trodAll_cons hA
  obtain ⟨v1, vs1, d1, ds1, p1, q1, rfl, rfl, rfl, h1, r1⟩ := trodAll_cons r0
  obtain ⟨v2, vs2, d2, ds2, p2, q2, rfl, rfl, rfl, h2, r2⟩ := trodAll_cons r1
  obtain ⟨v3, vs3, d3, ds3, p3, q3, rfl, rfl, rfl, h3, r3⟩ := trodAll_cons r2
  obtain ⟨v4, vs4, d4, ds4, p4, q4, rfl, rfl, rfl, h4, r4⟩ := trodAll_cons r3
  obtain ⟨v5, vs5, d5, ds5, p5, q5, rfl, rfl, rfl, h5, r5⟩ := trodAll_cons r4
  obtain ⟨v6, vs6, d6, ds6, p6, q6, rfl, rfl, rfl, h6, r6⟩ := trodAll_cons r5
  obtain ⟨v7, vs7, d7, ds7, p7, q7, rfl, rfl, rfl, h7, r7⟩ := trodAll_cons r6
  obtain ⟨rfl, rfl, rfl⟩ := trodAll_nil r7
  obtain rfl : args = #[v0, v1, v2, v3, v4, v5, v6, v7] := by cases args; simp_all
  obtain ⟨a0, rfl, rfl, rfl, w0⟩ := open_int Tryd.underlying3 (hval 0 3 v0 rfl rfl) h0
  obtain ⟨a1, rfl, rfl, rfl, w1⟩ := open_int Tryd.underlying3 (hval 1 3 v1 rfl rfl) h1
  obtain ⟨a2, b2, f2, rfl, w2, u2⟩ := open_spot Tryd.underlying25 (by kernel_rfl) (by kernel_rfl) Tryd.underlying3 Tryd.underlying3 Tryd.underlying4 (hval 2 25 v2 rfl rfl) h2
  obtain ⟨a3, rfl, rfl, rfl, w3⟩ := ChangeMaps.open_string Tryd.underlying9 (hval 3 9 v3 rfl rfl) h3
  obtain ⟨a4, b4, f4, rfl, w4, u4⟩ := open_spot Tryd.underlying25 (by kernel_rfl) (by kernel_rfl) Tryd.underlying3 Tryd.underlying3 Tryd.underlying4 (hval 4 25 v4 rfl rfl) h4
  obtain ⟨a5, b5, f5, c5, rfl, w5, u5, y5⟩ := open_seal Tryd.underlying53 (by kernel_rfl) rfl rfl (by kernel_rfl) (by kernel_rfl) Tryd.underlying25 (by kernel_rfl) Tryd.underlying3 Tryd.underlying3 Tryd.underlying4 Tryd.underlying3 (hval 5 53 v5 rfl rfl) h5
  obtain ⟨a6, b6, f6, c6, rfl, w6, u6, y6⟩ := open_seal Tryd.underlying53 (by kernel_rfl) rfl rfl (by kernel_rfl) (by kernel_rfl) Tryd.underlying25 (by kernel_rfl) Tryd.underlying3 Tryd.underlying3 Tryd.underlying4 Tryd.underlying3 (hval 6 53 v6 rfl rfl) h6
  obtain ⟨a7, rfl, rfl, rfl, w7⟩ := open_int Tryd.underlying3 (hval 7 3 v7 rfl rfl) h7
  have z3 : a3.size ≤ 140737488351232 := by have := sized_string hsz (j := 3) (t := 9) rfl rfl; simpa [reachBytes] using this
  clear hA0 hval0
  refine (adaptTells_law a0 w0 a1 w1 ⟨a2, b2, f2⟩ a3 z3 ⟨a4, b4, f4⟩ ⟨a5, b5, f5⟩ c5 ⟨a6, b6, f6⟩ c6 a7 w7 W (farErrLaid_at hL)).mono fun e W' ⟨he, hg⟩ => ?_
  subst he
  exact ⟨_, rfl, post_of_below (pa := _) (pv := []) hW' (fun _ _ _ => (trodAll_cons_mk (shut_bool Tryd.underlying4 _) trodAll_mk0)) (fun sp hsp => trodAll_stays Tryd.laidOutK hg typesOk hK (fun x hx => ⟨hlt x hx, hsp x (by first | exact hx | (simp at hx) | simpa using hx)⟩)) (fun _ _ => rfl) (by simp) hg (ok_one (by kernel_rfl) rfl (okWide_bool_mk Tryd.underlying4 _))⟩

theorem over : Rows.adaptTellsRow.holds Tryd.pinned (OpenSpec.ofChange Rows.adaptTellsSpec) :=
  OpenClaim.holds_of_wide 6 Tryd.f6 rfl rfl rfl rfl rfl rfl rfl ⟨rfl, rfl, rfl, rfl, rfl⟩ rfl rfl rfl rfl rfl (by kernel_rfl) Tryd.func6 (by show joinedFacts Tryd.prog _ _ _ _ = true; unfold joinedFacts; rw [mayEnterK, liftsFinalK, makeK]; kernel_rfl)
    (of_decide_eq_true (by kernel_rfl)) (by unfold Func.isWrapper; first | (rw [if_pos (by decide +kernel)]; kernel_rfl) | (rw [if_neg (by decide +kernel)]; exact ⟨rfl, rfl⟩))
    (fun os started H enc _ => lifted os started H enc)
theorem card : Rows.AdaptTellsCardSaid :=
  Claim7.holds_tied_plain_at .later [] [.data, .handle] true (true, "8bff7fe31cad154e1d9054f52751277758ee41cf373a73bb2e4a30f27c527906") true
    over (fun _ h => by cases h) (by kernel_rfl) (fun _ h => by cases h) adaptTells_row_tie rfl ⟨rfl, rfl⟩ mainIsK rfl
    (fun f fn hf hfn => by
      obtain rfl : f = 6 := Option.some.inj ((show Tryd.prog.funcNamed "pairstone/stonelaw3.AdaptTells" = some 6 by kernel_rfl).symm.trans hf) |>.symm
      obtain rfl : fn = Tryd.f6 := (Option.some.inj (Tryd.func6.symm.trans hfn)).symm
      exact ⟨by kernel_rfl, fun j t ht => by
        rw [Tryd.params6] at ht
        have hm : t ∈ ([3, 3, 25, 9, 25, 53, 53, 3] : List TypeId) := by simpa using Array.mem_of_getElem? ht
        have hall : (([3, 3, 25, 9, 25, 53, 53, 3] : List TypeId).all fun u => !Tryd.prog.wantsStandIn u) = true := by kernel_rfl
        exact (show Tryd.prog.wantsStandIn t = false by simpa using List.all_eq_true.1 hall t hm)⟩)
    (by kernel_rfl)
#print axioms card
end Go.Proofs.YtfnifdmnbccblaaDoor.adaptTells
