/- The statement of PairTells: for every input the law returns true, and the arguments read as they did. (its listed variable reads as laid; the card ties it) -/
import Derived.Test.YtfnifdmnbccblaaDoorWb
import Derived.Test.YtfnifdmnbccblaaDoorWv
import Derived.LaidEql
import Derived.Stop.Asserts
import Derived.RowKitTokens
import Derived.Test.YtfnifdmnbccblaaDoorMPairTells
import Derived.Laws.Entries
import Derived.Deep.DeepCutAuto
import Derived.Deep.CutBlock
import Derived.Test.YtfnifdmnbccblaaDoorRows
import Derived.ProofKit
import Derived.LaidMore
import Derived.OpenShut
import Derived.MakeChecks
import Derived.Deep.Strs
import Derived.Test.YtfnifdmnbccblaaDoorPo
import Derived.LaidHandle
import Derived.SizedLaws
import Derived.Test.YtfnifdmnbccblaaDoorTie
import Derived.Test.YtfnifdmnbccblaaDoorCards
import Derived.SevenTiedAt
namespace Go.Proofs.YtfnifdmnbccblaaDoor
open Go.RowKit Go.Extern.Stop Go.Stop Go.Extern
set_option maxRecDepth 100000
set_option linter.unusedVariables false
set_option linter.unusedSimpArgs false
/-- The variable errors.errorType reads as laid. -/
def ErrAt (w : World) : Prop := w.cell? ⟨2, 0, none⟩ = some (.iface 183 (.agg #[.pointer (some ⟨3, 27, none⟩)])) ∧ 2 < w.heap.size
theorem ErrAt.below {w w' : World} (h : ErrAt w) (hb : Below w.heap.size w w') : ErrAt w' := ⟨((bcell hb).1 _ _ h.2).trans h.1, Nat.lt_of_lt_of_le h.2 hb.size⟩
/-! The model's entries for reflectlite, at this program's types. -/
theorem rl_value (t : Addr) (w : World) : (ReflectliteValue.unpack (.iface 161 (.pointer (some t)))).run Tryd.prog w
    = .ok (.agg #[.pointer (some ⟨3, 161, none⟩), .pointer (some ⟨w.heap.size, 0, none⟩), .int .u64 150]) (w.alloc (.cells #[.pointer (some t)] 161)) := by kernel_rfl
theorem rl_type (a : Addr) (w : World) : (ReflectliteValue.methodAny (ReflectliteValue.valueError "reflectlite.Value.Type" 0) (fun t _ _ _ => ReflectliteType.toType t) #[.agg #[.pointer (some ⟨3, 161, none⟩), .pointer (some a), .int .u64 150]]).run Tryd.prog w
    = .ok (.iface 183 (.agg #[.pointer (some ⟨3, 161, none⟩)])) w := by kernel_rfl
theorem rl_kindm (h : Value) (w : World) : (Go.method 326 183 (.agg #[h]) "Kind").run Tryd.prog w = .ok (166, h) w := by kernel_rfl
theorem rl_kind (w : World) : ((ReflectliteType.abiMethod fun t => Functor.map (fun a : Nat => Value.int IntKind.u8 (a : Int)) (Rtype.kind t)) #[.pointer (some ⟨3, 161, none⟩)]).run Tryd.prog w = .ok (.int .u8 22) w := by kernel_rfl
theorem rl_kinde (w : World) : ((ReflectliteType.abiMethod fun t => Functor.map (fun a : Nat => Value.int IntKind.u8 (a : Int)) (Rtype.kind t)) #[.pointer (some ⟨3, 118, none⟩)]).run Tryd.prog w = .ok (.int .u8 2) w := by kernel_rfl
theorem rl_m (z : Sem Value) (f : TypeId → Addr → Nat → Nat → Sem Value) (v : Value) :
    ReflectliteValue.method z f #[v] = (do match ← ReflectliteValue.parts v with | none => z | some (t, a, fl) => f t a fl (fl % 32)) := rfl
theorem rl_parts (a : Addr) (w : World) : (ReflectliteValue.parts (.agg #[.pointer (some ⟨3, 161, none⟩), .pointer (some a), .int .u64 150])).run Tryd.prog w = .ok (some (161, a, 150)) w := by kernel_rfl
theorem rl_nil (a p : Addr) (W : World) (ha : W.cell? a = some (.pointer (some p))) :
    (ReflectliteValue.method (ReflectliteValue.valueError "reflectlite.Value.IsNil" 0) ReflectliteValue.isNil #[.agg #[.pointer (some ⟨3, 161, none⟩), .pointer (some a), .int .u64 150]]).run Tryd.prog W = .ok (.bool false) W := by
  rw [rl_m]
  simp only [Sem.run_bind, rl_parts, Result.andThen]
  simp [ReflectliteValue.isNil, loadVar, isAgg, underlying, Tryd.underlying161, ha, Result.andThen]
theorem rl_elemm (h : Value) (w : World) : (Go.method 326 183 (.agg #[h]) "Elem").run Tryd.prog w = .ok (177, .agg #[h]) w := by kernel_rfl
theorem rl_implm (h : Value) (w : World) : (Go.method 326 183 (.agg #[h]) "Implements").run Tryd.prog w = .ok (178, .agg #[h]) w := by kernel_rfl
theorem rl_assm (h : Value) (w : World) : (Go.method 326 183 (.agg #[h]) "AssignableTo").run Tryd.prog w = .ok (175, .agg #[h]) w := by kernel_rfl
theorem rl_elem (w : World) : (ReflectliteType.method ReflectliteType.elem #[.agg #[.pointer (some ⟨3, 161, none⟩)]]).run Tryd.prog w = .ok (.iface 183 (.agg #[.pointer (some ⟨3, 118, none⟩)])) w := by kernel_rfl
theorem rl_impl (w : World) : (ReflectliteType.relation "Implements" ReflectliteType.implements_ #[.agg #[.pointer (some ⟨3, 118, none⟩)], .iface 183 (.agg #[.pointer (some ⟨3, 27, none⟩)])]).run Tryd.prog w = .ok (.bool true) w := by kernel_rfl
theorem rl_typeof (v : Value) (w : World) : (ReflectliteType.typeOf #[.iface 118 v]).run Tryd.prog w = .ok (.iface 183 (.agg #[.pointer (some ⟨3, 118, none⟩)])) w := by kernel_rfl
theorem rl_ass (w : World) : (ReflectliteType.relation "AssignableTo" ReflectliteType.assignableTo #[.agg #[.pointer (some ⟨3, 118, none⟩)], .iface 183 (.agg #[.pointer (some ⟨3, 118, none⟩)])]).run Tryd.prog w = .ok (.bool true) w := by kernel_rfl
theorem rl_valuee (k : Int) (w : World) : (ReflectliteValue.unpack (.iface 118 (.int .i64 k))).run Tryd.prog w
    = .ok (.agg #[.pointer (some ⟨3, 118, none⟩), .pointer (some ⟨w.heap.size, 0, none⟩), .int .u64 130]) (w.alloc (.cells #[.int .i64 k] 118)) := by kernel_rfl
theorem rl_elemof (w : World) : (Rtype.elem? 161).run Tryd.prog w = .ok (some 118) w := by kernel_rfl
theorem rl_mk (p : Addr) (w : World) : (ReflectliteValue.mk 118 p ReflectliteValue.flagAddr).run Tryd.prog w = .ok (.agg #[.pointer (some ⟨3, 118, none⟩), .pointer (some p), .int .u64 386]) w := by kernel_rfl
theorem rl_elemv (a p : Addr) (W : World) (ha : W.cell? a = some (.pointer (some p))) :
    (ReflectliteValue.method (ReflectliteValue.valueError "reflectlite.Value.Elem" 0) ReflectliteValue.elem #[.agg #[.pointer (some ⟨3, 161, none⟩), .pointer (some a), .int .u64 150]]).run Tryd.prog W
      = .ok (.agg #[.pointer (some ⟨3, 118, none⟩), .pointer (some p), .int .u64 386]) W := by
  rw [rl_m]
  simp only [Sem.run_bind, rl_parts, Result.andThen]
  simp [ReflectliteValue.elem, loadVar, isAgg, underlying, Tryd.underlying161, ha, Result.andThen, rl_elemof, rl_mk]
theorem rl_s (v x : Value) : ReflectliteValue.set #[v, x] = (do
    let (some (dst, a, fl), some (src, b, _)) := (← ReflectliteValue.parts v, ← ReflectliteValue.parts x)
      | unsupported (.noEntry "extern/(internal/reflectlite.Value).Set.zeroValue")
    if fl / ReflectliteValue.flagAddr % 2 == 0 then unsupported (.noEntry "extern/(internal/reflectlite.Value).Set.unaddressable")
    let val ← loadVar src b
    if ← Rtype.directlyAssignable dst src then storeVar dst a val
    else if ← Rtype.implements dst src then
      if (← Rtype.kind src) == 20 then
        match val with
        | .nilIface => unsupported (.noEntry "extern/reflectlite: a nil value of one interface type handed on as a value of another")
        | _ => storeVar dst a val
      else storeVar dst a (.iface src val)
    else panicString ("reflectlite.Set: value of type " ++ (← Rtype.spelt src) ++ " is not assignable to type " ++ (← Rtype.spelt dst))
    pure (.tuple #[])) := rfl
theorem rl_partsa (a : Addr) (w : World) : (ReflectliteValue.parts (.agg #[.pointer (some ⟨3, 118, none⟩), .pointer (some a), .int .u64 386])).run Tryd.prog w = .ok (some (118, a, 386)) w := by kernel_rfl
theorem rl_partse (a : Addr) (w : World) : (ReflectliteValue.parts (.agg #[.pointer (some ⟨3, 118, none⟩), .pointer (some a), .int .u64 130])).run Tryd.prog w = .ok (some (118, a, 130)) w := by kernel_rfl
theorem rl_direct (w : World) : (Rtype.directlyAssignable 118 118).run Tryd.prog w = .ok true w := by kernel_rfl
theorem rl_set (ta b : Addr) (k : Int) (old : Value) (W : World) (hb : W.cell? b = some (.int .i64 k)) (ht : W.cell? ta = some old) (hf : W.frozen? ta = false) :
    (ReflectliteValue.set #[.agg #[.pointer (some ⟨3, 118, none⟩), .pointer (some ta), .int .u64 386], .agg #[.pointer (some ⟨3, 118, none⟩), .pointer (some b), .int .u64 130]]).run Tryd.prog W
      = .ok (.tuple #[]) (W.setCell ta (.int .i64 k)) := by
  rw [rl_s]
  simp only [Sem.run_bind, rl_partsa, rl_partse, Result.andThen]
  simp [ReflectliteValue.flagAddr, loadVar, isAgg, underlying, Tryd.underlying118, hb, Result.andThen, rl_direct, storeVar, Value.cells, storeCells, Addr.add]
  rw [run_store Tryd.prog W ta _ _ (by rfl)]
  simp [ht, hf]
set_option maxHeartbeats 4000000 in
theorem as_hit (k : Int) (t : Addr) (old : Value) (w : World) (hg : w.cell? ⟨2, 0, none⟩ = some (.iface 183 (.agg #[.pointer (some ⟨3, 27, none⟩)]))) (hgl : 2 < w.heap.size) (ht0 : w.cell? t = some old) (hf0 : w.frozen? t = false) :
    Calls Tryd.prog 134 #[.iface 118 (.int .i64 k), .iface 161 (.pointer (some t))] w fun ev w' => ev = .returned (.bool true) ∧ w' = ((((w.alloc (.cells #[.pointer (some t)] 161)).alloc (.cells #[.pointer (some ⟨3, 161, none⟩), .pointer (some ⟨w.heap.size, 0, none⟩), .int .u64 150] 172)).alloc (.cells #[.pointer (some ⟨3, 161, none⟩), .pointer (some ⟨w.heap.size, 0, none⟩), .int .u64 150] 172)).alloc (.cells #[.int .i64 k] 118)).setCell t (.int .i64 k) := by
  have h6 := @run_callFunc_extern Tryd.prog 144 _ (fun args => ReflectliteValue.unpack (args.getD 0 (.tuple #[]))) Tryd.func144 (by kernel_rfl) (by kernel_rfl) (by kernel_rfl) (by kernel_rfl)
  have h7 := @run_callFunc_extern Tryd.prog 145 _ (ReflectliteValue.methodAny (ReflectliteValue.valueError "reflectlite.Value.Type" 0) (fun t _ _ _ => ReflectliteType.toType t)) Tryd.func145 (by kernel_rfl) (by kernel_rfl) (by kernel_rfl) (by kernel_rfl)
  have h8 := @run_callFunc_extern Tryd.prog 146 _ (ReflectliteValue.method (ReflectliteValue.valueError "reflectlite.Value.IsNil" 0) ReflectliteValue.isNil) Tryd.func146 (by kernel_rfl) (by kernel_rfl) (by kernel_rfl) (by kernel_rfl)
  have h27 := @run_callFunc_extern Tryd.prog 166 _ (ReflectliteType.abiMethod fun t => do pure (.int .u8 (← Rtype.kind t))) Tryd.func166 (by kernel_rfl) (by kernel_rfl) (by kernel_rfl) (by kernel_rfl)
  have h37 := @run_callFunc_extern Tryd.prog 177 _ (ReflectliteType.method ReflectliteType.elem) Tryd.func177 (by kernel_rfl) (by kernel_rfl) (by kernel_rfl) (by kernel_rfl)
  have h38 := @run_callFunc_extern Tryd.prog 178 _ (ReflectliteType.relation "Implements" ReflectliteType.implements_) Tryd.func178 (by kernel_rfl) (by kernel_rfl) (by kernel_rfl) (by kernel_rfl)
  have h10 := @run_callFunc_extern Tryd.prog 149 _ (ReflectliteType.typeOf) Tryd.func149 (by kernel_rfl) (by kernel_rfl) (by kernel_rfl) (by kernel_rfl)
  have h35 := @run_callFunc_extern Tryd.prog 175 _ (ReflectliteType.relation "AssignableTo" ReflectliteType.assignableTo) Tryd.func175 (by kernel_rfl) (by kernel_rfl) (by kernel_rfl) (by kernel_rfl)
  have h11 := @run_callFunc_extern Tryd.prog 150 _ (ReflectliteValue.method (ReflectliteValue.valueError "reflectlite.Value.Elem" 0) ReflectliteValue.elem) Tryd.func150 (by kernel_rfl) (by kernel_rfl) (by kernel_rfl) (by kernel_rfl)
  have h12 := @run_callFunc_extern Tryd.prog 151 _ (ReflectliteValue.set) Tryd.func151 (by kernel_rfl) (by kernel_rfl) (by kernel_rfl) (by kernel_rfl)
  have tO := rl_typeof
  have mA := rl_assm
  have a25 := rl_ass
  have v25 := rl_valuee
  have f6 := rl_value
  have f7 := rl_type
  have mK := rl_kindm
  have mE := rl_elemm
  have mI := rl_implm
  have k27 := rl_kind
  have k25 := rl_kinde
  have e27 := rl_elem
  have i25 := rl_impl
  have n8 := rl_nil ⟨w.heap.size, 0, none⟩ t ((w.alloc (.cells #[.pointer (some t)] 161)).alloc (.cells #[.pointer (some ⟨3, 161, none⟩), .pointer (some ⟨w.heap.size, 0, none⟩), .int .u64 150] 172)) (by simp)
  have hg2 : ((w.alloc (.cells #[.pointer (some t)] 161)).alloc (.cells #[.pointer (some ⟨3, 161, none⟩), .pointer (some ⟨w.heap.size, 0, none⟩), .int .u64 150] 172)).cell? ⟨2, 0, none⟩ = some (.iface 183 (.agg #[.pointer (some ⟨3, 27, none⟩)])) := by
    rw [World.cell?_alloc_lt _ _ ⟨2, 0, none⟩ (by simp; omega), World.cell?_alloc_lt _ _ ⟨2, 0, none⟩ hgl]; exact hg
  have htl : t.block < w.heap.size := by
    rcases Nat.lt_or_ge t.block w.heap.size with h | h
    · exact h
    · simp [World.cell?, Array.getElem?_eq_none h] at ht0
  have el := rl_elemv ⟨w.heap.size, 0, none⟩ t (((w.alloc (.cells #[.pointer (some t)] 161)).alloc (.cells #[.pointer (some ⟨3, 161, none⟩), .pointer (some ⟨w.heap.size, 0, none⟩), .int .u64 150] 172)).alloc (.cells #[.pointer (some ⟨3, 161, none⟩), .pointer (some ⟨w.heap.size, 0, none⟩), .int .u64 150] 172)) (by rw [World.cell?_alloc_lt _ _ ⟨w.heap.size, 0, none⟩ (by simp; omega)]; simp)
  have st := rl_set t ⟨w.heap.size + 1 + 1 + 1, 0, none⟩ k old ((((w.alloc (.cells #[.pointer (some t)] 161)).alloc (.cells #[.pointer (some ⟨3, 161, none⟩), .pointer (some ⟨w.heap.size, 0, none⟩), .int .u64 150] 172)).alloc (.cells #[.pointer (some ⟨3, 161, none⟩), .pointer (some ⟨w.heap.size, 0, none⟩), .int .u64 150] 172)).alloc (.cells #[.int .i64 k] 118))
    (by rw [World.cell?_alloc_at _ _ _ _ (by simp)]; rfl)
    (by rw [World.cell?_alloc_lt _ _ t (by simp; omega), World.cell?_alloc_lt _ _ t (by simp; omega), World.cell?_alloc_lt _ _ t (by simp; omega), World.cell?_alloc_lt _ _ t htl]; exact ht0)
    (by rw [World.frozen?_alloc_old _ _ t (by simp; omega), World.frozen?_alloc_old _ _ t (by simp; omega), World.frozen?_alloc_old _ _ t (by simp; omega), World.frozen?_alloc_old _ _ t (Nat.ne_of_lt htl)]; exact hf0)
  go_enter Tryd.func134, Tryd.ntmps134
  go_wp2
  refine wp_loop_rounds 1 ?_
  rw [rounds_succ]
  go_wp2
  go_ret
  exact ⟨rfl, rfl⟩
/-- An error is told by its number. -/
theorem told_nil (w : World) : Calls Tryd.prog 89 #[.nilIface] w fun e w' => e = .returned (.int .i64 0) ∧ Below w.heap.size w w' := by
  go_enter Tryd.func89, Tryd.ntmps89
  go_wp2
  go_ret
  exact ⟨rfl, (by repeat (first | exact Below.refl _ _ | refine balloc ?_ _ | refine Below.drew ?_ | refine below_drewN ?_ _ | refine below_set ?_ (by first | omega | (dsimp only; omega)) _))⟩
set_option maxHeartbeats 4000000 in
theorem told_err (k : Int) (w : World) (hE : ErrAt w) : Calls Tryd.prog 89 #[.iface 118 (.int .i64 k)] w fun e w' => e = .returned (.int .i64 k) ∧ Below w.heap.size w w' := by
  go_enter Tryd.func89, Tryd.ntmps89
  go_wp2_with fail
  refine (as_hit k ⟨w.heap.size, 0, none⟩ (.int .i64 0) _ (by rw [World.cell?_alloc_lt _ _ ⟨2, 0, none⟩ hE.2]; exact hE.1) (by simp; have := hE.2; omega) (by simp) (by simp)).mono ?_; rintro e w1 ⟨rfl, hw⟩
  have hc : w1.cell? ⟨w.heap.size, 0, none⟩ = some (.int .i64 k) := by
    rw [hw]; refine World.cell?_setCell_same (u := .int .i64 0) _ _ _ ?_
    rw [World.cell?_alloc_lt _ _ ⟨w.heap.size, 0, none⟩ (by simp; omega), World.cell?_alloc_lt _ _ ⟨w.heap.size, 0, none⟩ (by simp; omega), World.cell?_alloc_lt _ _ ⟨w.heap.size, 0, none⟩ (by simp; omega), World.cell?_alloc_lt _ _ ⟨w.heap.size, 0, none⟩ (by simp)]; simp
  have hb : Below w.heap.size w w1 := by
    rw [hw]; exact below_set (balloc (balloc (balloc (balloc (below_alloc _ _) _) _) _) _) (Nat.le_refl _) _
  have hz := hb.size
  have hl : w.heap.size < w1.heap.size := by rw [hw]; simp; omega
  clear hw
  go_wp2
  go_ret
  exact ⟨rfl, hb⟩
theorem error_nil (n : Int) (w : World) (b : Bool) (h : Hid (((0 : Int) == n) = b)) : Calls Tryd.prog 21 #[.nilIface, .int .i64 n] w fun e w' => e = .returned (.bool b) ∧ Below w.heap.size w w' := by
  go_enter Tryd.func21, Tryd.ntmps21
  go_wp2_with fail
  refine (told_nil _).mono ?_; rintro e w1 ⟨rfl, hb⟩
  have he := h.out
  go_wp2
  go_ret
  exact ⟨rfl, hb⟩
theorem error_err (k n : Int) (w : World) (hE : ErrAt w) (b : Bool) (h : Hid ((k == n) = b)) : Calls Tryd.prog 21 #[.iface 118 (.int .i64 k), .int .i64 n] w fun e w' => e = .returned (.bool b) ∧ Below w.heap.size w w' := by
  go_enter Tryd.func21, Tryd.ntmps21
  go_wp2_with fail
  refine (told_err k _ hE).mono ?_; rintro e w1 ⟨rfl, hb⟩
  have he := h.out
  go_wp2
  go_ret
  exact ⟨rfl, hb⟩
/-- An error's value, by its number; it is told as that number. -/
theorem error_same (E : Value) (n : Int) (w : World) (hE : ErrAt w) (h : Hid (E = errV n)) : Calls Tryd.prog 21 #[E, .int .i64 n] w fun e w' => e = .returned (.bool true) ∧ Below w.heap.size w w' := by
  rw [h.out]; unfold errV
  split
  · next e => rw [e]; exact error_nil 0 w true rfl
  · exact error_err n n w hE true (by show _ = _; simp)
end Go.Proofs.YtfnifdmnbccblaaDoor
namespace Go.Proofs.YtfnifdmnbccblaaDoor
open Go.RowKit
set_option maxRecDepth 100000
set_option linter.unusedVariables false
set_option linter.unusedSimpArgs false
/-- A call in every later world. -/
def PtAt (w : World) (f : FuncId) (vs : Array Value) (r : Value) : Prop := ∀ w1 : World, Below w.heap.size w w1 → Calls Tryd.prog f vs w1 fun e w' => e = .returned r ∧ Below w1.heap.size w1 w'
def Zn (z : Z) : Value := .agg #[.int .i64 (fz z.re), .int .i64 (fz z.im)]
set_option maxHeartbeats 64000000 in
theorem pt_core (a b c d : Sp) (a4 a5 : Option Addr) (n4 n5 c4 c5 : Nat) (w : World) (hE : ErrAt w) (j4 : n4 ≤ 9223372036854775807) (j5 : n5 ≤ 9223372036854775807)
    (E1 E2 E3 E4 X0 X1 Y0 Y1 F0 F1 : Int) (B85 BQ : Bool)
    (k1 : Hid (PtAt w 18 #[spV a, spV b] (.int .i64 E1)))
    (h1 : Hid ((E1 = 0 ∧ PtAt w 19 #[spV a, spV b] (.agg #[.int .i64 X0, .int .i64 X1])) ∨ ((E1 == 0) = false ∧ X0 = 0 ∧ X1 = 0)))
    (kP : Hid (PtAt w 20 #[spV a, spV b] (.tuple #[.agg #[.int .i64 X0, .int .i64 X1], errV E1])))
    (h2 : Hid ((E1 = 0 ∧ PtAt w 18 #[spV c, spV d] (.int .i64 E2)) ∨ ((E1 == 0) = false ∧ E2 = E1)))
    (h3 : Hid ((E2 = 0 ∧ PtAt w 19 #[spV c, spV d] (.agg #[.int .i64 Y0, .int .i64 Y1])) ∨ ((E2 == 0) = false ∧ Y0 = 0 ∧ Y1 = 0)))
    (hq : Hid ((E2 = 0 ∧ twB X0 X1 Y0 Y1 = BQ) ∨ ((E2 == 0) = false ∧ BQ = false)))
    (kS : Hid (PtAt w 22 #[spV a, spV b, spV c, spV d] (.tuple #[.bool BQ, errV E2])))
    (h4a : Hid ((12 < n4 ∧ B85 = true) ∨ (n4 ≤ 12 ∧ 12 < n5 ∧ B85 = true) ∨ (n4 ≤ 12 ∧ n5 ≤ 12 ∧ B85 = false)))
    (h4 : Hid ((B85 = true ∧ E3 = 4) ∨ (B85 = false ∧ ((n4 : Int) != (n5 : Int)) = true ∧ E3 = 3) ∨ (B85 = false ∧ ((n4 : Int) != (n5 : Int)) = false ∧ E3 = 0)))
    (h5 : Hid (((E3 == 0) = false ∧ E4 = E3) ∨ (E3 = 0 ∧ ∃ (L M : List Sp) (f g : Nat → Int) (k : Nat), n4 = L.length ∧ n5 = L.length ∧ M.length = L.length ∧ L.length ≤ 12 ∧ (0 < L.length → ∃ b o, a4 = some ⟨b, o, none⟩ ∧ SpotsAt w b o L) ∧ (0 < L.length → ∃ b o, a5 = some ⟨b, o, none⟩ ∧ SpotsAt w b o M) ∧ k ≤ L.length ∧
      (∀ i (h : i < L.length) (h' : i < M.length), i < k → (∀ w : World, Calls Tryd.prog 18 #[spV L[i], spV M[i]] w fun e w' => e = .returned (.int .i64 0) ∧ Below w.heap.size w w') ∧ Cnt L[i] (f i) ∧ Cnt M[i] (g i)) ∧ (∀ (h : k < L.length) (h' : k < M.length), (∀ w : World, Calls Tryd.prog 18 #[spV L[k], spV M[k]] w fun e w' => e = .returned (.int .i64 E4) ∧ Below w.heap.size w w') ∧ (E4 == 0) = false) ∧ (k = L.length → E4 = 0 ∧ fz (zp (prodN (fun k => f k * g k) L.length)).re = F0 ∧ fz (zp (prodN (fun k => f k * g k) L.length)).im = F1))))
    (h6 : Hid (E4 = 0 ∨ ((E4 == 0) = false ∧ F0 = 0 ∧ F1 = 0)))
    (kR : Hid (PtAt w 24 #[.slice a4 n4 c4, .slice a5 n5 c5] (.tuple #[.agg #[.int .i64 F0, .int .i64 F1], errV E4]))) :
    Calls Tryd.prog 4 #[spV a, spV b, spV c, spV d, .slice a4 n4 c4, .slice a5 n5 c5] w fun e w' => e = .returned (.bool true) ∧ Below w.heap.size w w' := by
  go_enter Tryd.func4, Tryd.ntmps4
  go_wp2_with fail
  refine (k1.out _ (by repeat (first | with_reducible exact Below.refl _ _ | with_reducible refine below_set ?_ (by first | omega | (dsimp only; omega)) _ | with_reducible refine balloc ?_ _ | with_reducible refine Below.drew ?_ | with_reducible refine below_drewN ?_ _ | exact Below.refl _ _ | refine balloc ?_ _ | refine Below.drew ?_ | refine below_drewN ?_ _ | refine below_set ?_ (by first | omega | (dsimp only; omega)) _))).mono ?_; rintro e w1 ⟨rfl, hb⟩
  obtain ⟨hc1, hf1⟩ := bcell hb
  have z1 := hb.size
  try simp only [World.size_alloc, World.size_setCell, World.size_drew] at z1
  have s1_0 : w.heap.size < w1.heap.size := by omega
  have s1_1 : w.heap.size + 1 < w1.heap.size := by omega
  have s1_2 : w.heap.size + 1 + 1 < w1.heap.size := by omega
  have s1_3 : w.heap.size + 1 + 1 + 1 < w1.heap.size := by omega
  have hB1 : Below w.heap.size w w1 := below_seq (by repeat (first | with_reducible exact Below.refl _ _ | with_reducible refine below_set ?_ (by first | omega | (dsimp only; omega)) _ | with_reducible refine balloc ?_ _ | with_reducible refine Below.drew ?_ | with_reducible refine below_drewN ?_ _ | exact Below.refl _ _ | refine balloc ?_ _ | refine Below.drew ?_ | refine below_drewN ?_ _ | refine below_set ?_ (by first | omega | (dsimp only; omega)) _)) hb
  clear hb
  have m1_0_0 : w1.cell? ⟨w.heap.size, 0, none⟩ = some (.int .i64 a.x) := by go_simp
  have m1_0_1 : w1.cell? ⟨w.heap.size, 1, none⟩ = some (.int .i64 a.y) := by go_simp
  have m1_0_2 : w1.cell? ⟨w.heap.size, 2, none⟩ = some (.bool a.far) := by go_simp
  have m1_1_0 : w1.cell? ⟨w.heap.size + 1, 0, none⟩ = some (.int .i64 b.x) := by go_simp
  have m1_1_1 : w1.cell? ⟨w.heap.size + 1, 1, none⟩ = some (.int .i64 b.y) := by go_simp
  have m1_1_2 : w1.cell? ⟨w.heap.size + 1, 2, none⟩ = some (.bool b.far) := by go_simp
  have m1_2_0 : w1.cell? ⟨w.heap.size + 1 + 1, 0, none⟩ = some (.int .i64 c.x) := by go_simp
  have m1_2_1 : w1.cell? ⟨w.heap.size + 1 + 1, 1, none⟩ = some (.int .i64 c.y) := by go_simp
  have m1_2_2 : w1.cell? ⟨w.heap.size + 1 + 1, 2, none⟩ = some (.bool c.far) := by go_simp
  have m1_3_0 : w1.cell? ⟨w.heap.size + 1 + 1 + 1, 0, none⟩ = some (.int .i64 d.x) := by go_simp
  have m1_3_1 : w1.cell? ⟨w.heap.size + 1 + 1 + 1, 1, none⟩ = some (.int .i64 d.y) := by go_simp
  have m1_3_2 : w1.cell? ⟨w.heap.size + 1 + 1 + 1, 2, none⟩ = some (.bool d.far) := by go_simp
  clear hc1
  clear hf1
  go_upto_if 28 with fail
  go_cut [16] from 28 to 31 (fun s16 wx => True ∧ Below w.heap.size w wx ∧ w.heap.size < wx.heap.size ∧ w.heap.size + 1 < wx.heap.size ∧ w.heap.size + 1 + 1 < wx.heap.size ∧ w.heap.size + 1 + 1 + 1 < wx.heap.size ∧ w1.heap.size < wx.heap.size ∧ w1.heap.size + 1 < wx.heap.size ∧ wx.cell? ⟨w.heap.size, 0, none⟩ = some (.int .i64 a.x) ∧ wx.cell? ⟨w.heap.size, 1, none⟩ = some (.int .i64 a.y) ∧ wx.cell? ⟨w.heap.size, 2, none⟩ = some (.bool a.far) ∧ wx.cell? ⟨w.heap.size + 1, 0, none⟩ = some (.int .i64 b.x) ∧ wx.cell? ⟨w.heap.size + 1, 1, none⟩ = some (.int .i64 b.y) ∧ wx.cell? ⟨w.heap.size + 1, 2, none⟩ = some (.bool b.far) ∧ wx.cell? ⟨w.heap.size + 1 + 1, 0, none⟩ = some (.int .i64 c.x) ∧ wx.cell? ⟨w.heap.size + 1 + 1, 1, none⟩ = some (.int .i64 c.y) ∧ wx.cell? ⟨w.heap.size + 1 + 1, 2, none⟩ = some (.bool c.far) ∧ wx.cell? ⟨w.heap.size + 1 + 1 + 1, 0, none⟩ = some (.int .i64 d.x) ∧ wx.cell? ⟨w.heap.size + 1 + 1 + 1, 1, none⟩ = some (.int .i64 d.y) ∧ wx.cell? ⟨w.heap.size + 1 + 1 + 1, 2, none⟩ = some (.bool d.far) ∧ wx.cell? ⟨w1.heap.size, 0, none⟩ = some (.int .i64 X0) ∧ wx.cell? ⟨w1.heap.size, 1, none⟩ = some (.int .i64 X1) ∧ wx.cell? ⟨w1.heap.size + 1, 0, none⟩ = some (.int .i64 0) ∧ wx.cell? ⟨w1.heap.size + 1, 1, none⟩ = some (.int .i64 0) ∧ wx.frozen? ⟨w1.heap.size, 0, none⟩ = false ∧ wx.frozen? ⟨w1.heap.size, 1, none⟩ = false ∧ wx.frozen? ⟨w1.heap.size + 1, 0, none⟩ = false ∧ wx.frozen? ⟨w1.heap.size + 1, 1, none⟩ = false)
  case first =>
    rcases h1.out with ⟨e1, e2⟩ | ⟨e1, e2, e3⟩
    · subst e1
      replace e2 := Lib.hid e2
      clear h1
      go_wp2_with fail
      refine (e2.out _ (by repeat (first | with_reducible exact hB1 | with_reducible exact Below.refl _ _ | with_reducible refine below_set ?_ (by first | omega | (dsimp only; omega)) _ | with_reducible refine balloc ?_ _ | with_reducible refine Below.drew ?_ | with_reducible refine below_drewN ?_ _ | exact hB1 | exact Below.refl _ _ | refine balloc ?_ _ | refine Below.drew ?_ | refine below_drewN ?_ _ | refine below_set ?_ (by first | omega | (dsimp only; omega)) _))).mono ?_; rintro e w2 ⟨rfl, hb⟩
      obtain ⟨hc2, hf2⟩ := bcell hb
      have z2 := hb.size
      try simp only [World.size_alloc, World.size_setCell, World.size_drew] at z2
      have s2_0 : w.heap.size < w2.heap.size := by omega
      have s2_1 : w.heap.size + 1 < w2.heap.size := by omega
      have s2_2 : w.heap.size + 1 + 1 < w2.heap.size := by omega
      have s2_3 : w.heap.size + 1 + 1 + 1 < w2.heap.size := by omega
      have s2_4 : w1.heap.size < w2.heap.size := by omega
      have s2_5 : w1.heap.size + 1 < w2.heap.size := by omega
      have hB2 : Below w.heap.size w w2 := below_seq (by repeat (first | with_reducible exact hB1 | with_reducible exact Below.refl _ _ | with_reducible refine below_set ?_ (by first | omega | (dsimp only; omega)) _ | with_reducible refine balloc ?_ _ | with_reducible refine Below.drew ?_ | with_reducible refine below_drewN ?_ _ | exact hB1 | exact Below.refl _ _ | refine balloc ?_ _ | refine Below.drew ?_ | refine below_drewN ?_ _ | refine below_set ?_ (by first | omega | (dsimp only; omega)) _)) hb
      clear hb
      have m2_0_0 : w2.cell? ⟨w.heap.size, 0, none⟩ = some (.int .i64 a.x) := by go_simp
      have m2_0_1 : w2.cell? ⟨w.heap.size, 1, none⟩ = some (.int .i64 a.y) := by go_simp
      have m2_0_2 : w2.cell? ⟨w.heap.size, 2, none⟩ = some (.bool a.far) := by go_simp
      have m2_1_0 : w2.cell? ⟨w.heap.size + 1, 0, none⟩ = some (.int .i64 b.x) := by go_simp
      have m2_1_1 : w2.cell? ⟨w.heap.size + 1, 1, none⟩ = some (.int .i64 b.y) := by go_simp
      have m2_1_2 : w2.cell? ⟨w.heap.size + 1, 2, none⟩ = some (.bool b.far) := by go_simp
      have m2_2_0 : w2.cell? ⟨w.heap.size + 1 + 1, 0, none⟩ = some (.int .i64 c.x) := by go_simp
      have m2_2_1 : w2.cell? ⟨w.heap.size + 1 + 1, 1, none⟩ = some (.int .i64 c.y) := by go_simp
      have m2_2_2 : w2.cell? ⟨w.heap.size + 1 + 1, 2, none⟩ = some (.bool c.far) := by go_simp
      have m2_3_0 : w2.cell? ⟨w.heap.size + 1 + 1 + 1, 0, none⟩ = some (.int .i64 d.x) := by go_simp
      have m2_3_1 : w2.cell? ⟨w.heap.size + 1 + 1 + 1, 1, none⟩ = some (.int .i64 d.y) := by go_simp
      have m2_3_2 : w2.cell? ⟨w.heap.size + 1 + 1 + 1, 2, none⟩ = some (.bool d.far) := by go_simp
      have m2_4_0 : w2.cell? ⟨w1.heap.size, 0, none⟩ = some (.int .i64 0) := by go_simp
      have m2_4_1 : w2.cell? ⟨w1.heap.size, 1, none⟩ = some (.int .i64 0) := by go_simp
      have m2_5_0 : w2.cell? ⟨w1.heap.size + 1, 0, none⟩ = some (.int .i64 0) := by go_simp
      have m2_5_1 : w2.cell? ⟨w1.heap.size + 1, 1, none⟩ = some (.int .i64 0) := by go_simp
      clear m1_0_0 m1_0_1 m1_0_2 m1_1_0 m1_1_1 m1_1_2 m1_2_0 m1_2_1 m1_2_2 m1_3_0 m1_3_1 m1_3_2
      clear hc2
      have y2_0_0 : w2.frozen? ⟨w1.heap.size, 0, none⟩ = false := by go_simp
      have y2_0_1 : w2.frozen? ⟨w1.heap.size, 1, none⟩ = false := by go_simp
      have y2_1_0 : w2.frozen? ⟨w1.heap.size + 1, 0, none⟩ = false := by go_simp
      have y2_1_1 : w2.frozen? ⟨w1.heap.size + 1, 1, none⟩ = false := by go_simp
      clear z1 hB1 hf2
      go_wp2_with fail
      go_meet
      exact ⟨trivial, (by repeat (first | with_reducible exact hB2 | with_reducible exact Below.refl _ _ | with_reducible refine below_set ?_ (by first | omega | (dsimp only; omega)) _ | with_reducible refine balloc ?_ _ | with_reducible refine Below.drew ?_ | with_reducible refine below_drewN ?_ _ | exact hB2 | exact Below.refl _ _ | refine balloc ?_ _ | refine Below.drew ?_ | refine below_drewN ?_ _ | refine below_set ?_ (by first | omega | (dsimp only; omega)) _)), (by first | with_reducible assumption | omega | (simp only [World.heap_drewN, World.size_alloc, World.size_setCell, World.size_drew]; omega)), (by first | with_reducible assumption | omega | (simp only [World.heap_drewN, World.size_alloc, World.size_setCell, World.size_drew]; omega)), (by first | with_reducible assumption | omega | (simp only [World.heap_drewN, World.size_alloc, World.size_setCell, World.size_drew]; omega)), (by first | with_reducible assumption | omega | (simp only [World.heap_drewN, World.size_alloc, World.size_setCell, World.size_drew]; omega)), (by first | with_reducible assumption | omega | (simp only [World.heap_drewN, World.size_alloc, World.size_setCell, World.size_drew]; omega)), (by first | with_reducible assumption | omega | (simp only [World.heap_drewN, World.size_alloc, World.size_setCell, World.size_drew]; omega)), (by first | with_reducible assumption | go_simp), (by first | with_reducible assumption | go_simp), (by first | with_reducible assumption | go_simp), (by first | with_reducible assumption | go_simp), (by first | with_reducible assumption | go_simp), (by first | with_reducible assumption | go_simp), (by first | with_reducible assumption | go_simp), (by first | with_reducible assumption | go_simp), (by first | with_reducible assumption | go_simp), (by first | with_reducible assumption | go_simp), (by first | with_reducible assumption | go_simp), (by first | with_reducible assumption | go_simp), (by first | with_reducible assumption | go_simp), (by first | with_reducible assumption | go_simp), (by first | with_reducible assumption | go_simp), (by first | with_reducible assumption | go_simp), (by first | with_reducible assumption | go_simp), (by first | with_reducible assumption | go_simp), (by first | with_reducible assumption | go_simp), (by first | with_reducible assumption | go_simp)⟩
    · subst e2 e3
      clear h1
      go_wp2_with fail
      go_meet
      exact ⟨trivial, (by repeat (first | with_reducible exact hB1 | with_reducible exact Below.refl _ _ | with_reducible refine below_set ?_ (by first | omega | (dsimp only; omega)) _ | with_reducible refine balloc ?_ _ | with_reducible refine Below.drew ?_ | with_reducible refine below_drewN ?_ _ | exact hB1 | exact Below.refl _ _ | refine balloc ?_ _ | refine Below.drew ?_ | refine below_drewN ?_ _ | refine below_set ?_ (by first | omega | (dsimp only; omega)) _)), (by first | with_reducible assumption | omega | (simp only [World.heap_drewN, World.size_alloc, World.size_setCell, World.size_drew]; omega)), (by first | with_reducible assumption | omega | (simp only [World.heap_drewN, World.size_alloc, World.size_setCell, World.size_drew]; omega)), (by first | with_reducible assumption | omega | (simp only [World.heap_drewN, World.size_alloc, World.size_setCell, World.size_drew]; omega)), (by first | with_reducible assumption | omega | (simp only [World.heap_drewN, World.size_alloc, World.size_setCell, World.size_drew]; omega)), (by first | with_reducible assumption | omega | (simp only [World.heap_drewN, World.size_alloc, World.size_setCell, World.size_drew]; omega)), (by first | with_reducible assumption | omega | (simp only [World.heap_drewN, World.size_alloc, World.size_setCell, World.size_drew]; omega)), (by first | with_reducible assumption | go_simp), (by first | with_reducible assumption | go_simp), (by first | with_reducible assumption | go_simp), (by first | with_reducible assumption | go_simp), (by first | with_reducible assumption | go_simp), (by first | with_reducible assumption | go_simp), (by first | with_reducible assumption | go_simp), (by first | with_reducible assumption | go_simp), (by first | with_reducible assumption | go_simp), (by first | with_reducible assumption | go_simp), (by first | with_reducible assumption | go_simp), (by first | with_reducible assumption | go_simp), (by first | with_reducible assumption | go_simp), (by first | with_reducible assumption | go_simp), (by first | with_reducible assumption | go_simp), (by first | with_reducible assumption | go_simp), (by first | with_reducible assumption | go_simp), (by first | with_reducible assumption | go_simp), (by first | with_reducible assumption | go_simp), (by first | with_reducible assumption | go_simp)⟩
  case rest =>
    obtain ⟨w2, hwq⟩ : ∃ x, x = wc := ⟨_, rfl⟩
    subst hwq
    obtain ⟨-, hB2, s2_0, s2_1, s2_2, s2_3, s2_4, s2_5, m2_0_0, m2_0_1, m2_0_2, m2_1_0, m2_1_1, m2_1_2, m2_2_0, m2_2_1, m2_2_2, m2_3_0, m2_3_1, m2_3_2, m2_4_0, m2_4_1, m2_5_0, m2_5_1, y2_0_0, y2_0_1, y2_1_0, y2_1_1⟩ := hcut
    clear m1_0_0 m1_0_1 m1_0_2 m1_1_0 m1_1_1 m1_1_2 m1_2_0 m1_2_1 m1_2_2 m1_3_0 m1_3_1 m1_3_2
    clear z1 hB1
    clear h1
    go_wp2_with fail
    refine (kP.out _ (by repeat (first | with_reducible exact hB2 | with_reducible exact Below.refl _ _ | with_reducible refine below_set ?_ (by first | omega | (dsimp only; omega)) _ | with_reducible refine balloc ?_ _ | with_reducible refine Below.drew ?_ | with_reducible refine below_drewN ?_ _ | exact hB2 | exact Below.refl _ _ | refine balloc ?_ _ | refine Below.drew ?_ | refine below_drewN ?_ _ | refine below_set ?_ (by first | omega | (dsimp only; omega)) _))).mono ?_; rintro e w3 ⟨rfl, hb⟩
    obtain ⟨hc3, hf3⟩ := bcell hb
    have z3 := hb.size
    try simp only [World.size_alloc, World.size_setCell, World.size_drew] at z3
    have s3_0 : w.heap.size < w3.heap.size := by omega
    have s3_1 : w.heap.size + 1 < w3.heap.size := by omega
    have s3_2 : w.heap.size + 1 + 1 < w3.heap.size := by omega
    have s3_3 : w.heap.size + 1 + 1 + 1 < w3.heap.size := by omega
    have s3_4 : w1.heap.size < w3.heap.size := by omega
    have s3_5 : w1.heap.size + 1 < w3.heap.size := by omega
    have hB3 : Below w.heap.size w w3 := below_seq (by repeat (first | with_reducible exact hB2 | with_reducible exact Below.refl _ _ | with_reducible refine below_set ?_ (by first | omega | (dsimp only; omega)) _ | with_reducible refine balloc ?_ _ | with_reducible refine Below.drew ?_ | with_reducible refine below_drewN ?_ _ | exact hB2 | exact Below.refl _ _ | refine balloc ?_ _ | refine Below.drew ?_ | refine below_drewN ?_ _ | refine below_set ?_ (by first | omega | (dsimp only; omega)) _)) hb
    clear hb
    have m3_0_0 : w3.cell? ⟨w.heap.size, 0, none⟩ = some (.int .i64 a.x) := by go_simp
    have m3_0_1 : w3.cell? ⟨w.heap.size, 1, none⟩ = some (.int .i64 a.y) := by go_simp
    have m3_0_2 : w3.cell? ⟨w.heap.size, 2, none⟩ = some (.bool a.far) := by go_simp
    have m3_1_0 : w3.cell? ⟨w.heap.size + 1, 0, none⟩ = some (.int .i64 b.x) := by go_simp
    have m3_1_1 : w3.cell? ⟨w.heap.size + 1, 1, none⟩ = some (.int .i64 b.y) := by go_simp
    have m3_1_2 : w3.cell? ⟨w.heap.size + 1, 2, none⟩ = some (.bool b.far) := by go_simp
    have m3_2_0 : w3.cell? ⟨w.heap.size + 1 + 1, 0, none⟩ = some (.int .i64 c.x) := by go_simp
    have m3_2_1 : w3.cell? ⟨w.heap.size + 1 + 1, 1, none⟩ = some (.int .i64 c.y) := by go_simp
    have m3_2_2 : w3.cell? ⟨w.heap.size + 1 + 1, 2, none⟩ = some (.bool c.far) := by go_simp
    have m3_3_0 : w3.cell? ⟨w.heap.size + 1 + 1 + 1, 0, none⟩ = some (.int .i64 d.x) := by go_simp
    have m3_3_1 : w3.cell? ⟨w.heap.size + 1 + 1 + 1, 1, none⟩ = some (.int .i64 d.y) := by go_simp
    have m3_3_2 : w3.cell? ⟨w.heap.size + 1 + 1 + 1, 2, none⟩ = some (.bool d.far) := by go_simp
    have m3_4_0 : w3.cell? ⟨w1.heap.size, 0, none⟩ = some (.int .i64 X0) := by go_simp
    have m3_4_1 : w3.cell? ⟨w1.heap.size, 1, none⟩ = some (.int .i64 X1) := by go_simp
    have m3_5_0 : w3.cell? ⟨w1.heap.size + 1, 0, none⟩ = some (.int .i64 0) := by go_simp
    have m3_5_1 : w3.cell? ⟨w1.heap.size + 1, 1, none⟩ = some (.int .i64 0) := by go_simp
    clear m2_0_0 m2_0_1 m2_0_2 m2_1_0 m2_1_1 m2_1_2 m2_2_0 m2_2_1 m2_2_2 m2_3_0 m2_3_1 m2_3_2 m2_4_0 m2_4_1 m2_5_0 m2_5_1
    clear hc3
    have y3_0_0 : w3.frozen? ⟨w1.heap.size, 0, none⟩ = false := by go_simp
    have y3_0_1 : w3.frozen? ⟨w1.heap.size, 1, none⟩ = false := by go_simp
    have y3_1_0 : w3.frozen? ⟨w1.heap.size + 1, 0, none⟩ = false := by go_simp
    have y3_1_1 : w3.frozen? ⟨w1.heap.size + 1, 1, none⟩ = false := by go_simp
    clear hB2 s2_0 s2_1 s2_2 s2_3 s2_4 s2_5 y2_0_0 y2_0_1 y2_1_0 y2_1_1 hf3
    go_wp2_with fail
    refine (error_same (errV E1) E1 _ (hE.below (by repeat (first | with_reducible exact hB3 | with_reducible exact Below.refl _ _ | with_reducible refine below_set ?_ (by first | omega | (dsimp only; omega)) _ | with_reducible refine balloc ?_ _ | with_reducible refine Below.drew ?_ | with_reducible refine below_drewN ?_ _ | exact hB3 | exact Below.refl _ _ | refine balloc ?_ _ | refine Below.drew ?_ | refine below_drewN ?_ _ | refine below_set ?_ (by first | omega | (dsimp only; omega)) _))) (Lib.hid rfl)).mono ?_; rintro e w4 ⟨rfl, hb⟩
    obtain ⟨hc4, hf4⟩ := bcell hb
    have z4 := hb.size
    try simp only [World.size_alloc, World.size_setCell, World.size_drew] at z4
    have s4_0 : w.heap.size < w4.heap.size := by omega
    have s4_1 : w.heap.size + 1 < w4.heap.size := by omega
    have s4_2 : w.heap.size + 1 + 1 < w4.heap.size := by omega
    have s4_3 : w.heap.size + 1 + 1 + 1 < w4.heap.size := by omega
    have s4_4 : w1.heap.size < w4.heap.size := by omega
    have s4_5 : w1.heap.size + 1 < w4.heap.size := by omega
    have s4_6 : w3.heap.size < w4.heap.size := by omega
    have hB4 : Below w.heap.size w w4 := below_seq (by repeat (first | with_reducible exact hB3 | with_reducible exact Below.refl _ _ | with_reducible refine below_set ?_ (by first | omega | (dsimp only; omega)) _ | with_reducible refine balloc ?_ _ | with_reducible refine Below.drew ?_ | with_reducible refine below_drewN ?_ _ | exact hB3 | exact Below.refl _ _ | refine balloc ?_ _ | refine Below.drew ?_ | refine below_drewN ?_ _ | refine below_set ?_ (by first | omega | (dsimp only; omega)) _)) hb
    clear hb
    have m4_0_0 : w4.cell? ⟨w.heap.size, 0, none⟩ = some (.int .i64 a.x) := by go_simp
    have m4_0_1 : w4.cell? ⟨w.heap.size, 1, none⟩ = some (.int .i64 a.y) := by go_simp
    have m4_0_2 : w4.cell? ⟨w.heap.size, 2, none⟩ = some (.bool a.far) := by go_simp
    have m4_1_0 : w4.cell? ⟨w.heap.size + 1, 0, none⟩ = some (.int .i64 b.x) := by go_simp
    have m4_1_1 : w4.cell? ⟨w.heap.size + 1, 1, none⟩ = some (.int .i64 b.y) := by go_simp
    have m4_1_2 : w4.cell? ⟨w.heap.size + 1, 2, none⟩ = some (.bool b.far) := by go_simp
    have m4_2_0 : w4.cell? ⟨w.heap.size + 1 + 1, 0, none⟩ = some (.int .i64 c.x) := by go_simp
    have m4_2_1 : w4.cell? ⟨w.heap.size + 1 + 1, 1, none⟩ = some (.int .i64 c.y) := by go_simp
    have m4_2_2 : w4.cell? ⟨w.heap.size + 1 + 1, 2, none⟩ = some (.bool c.far) := by go_simp
    have m4_3_0 : w4.cell? ⟨w.heap.size + 1 + 1 + 1, 0, none⟩ = some (.int .i64 d.x) := by go_simp
    have m4_3_1 : w4.cell? ⟨w.heap.size + 1 + 1 + 1, 1, none⟩ = some (.int .i64 d.y) := by go_simp
    have m4_3_2 : w4.cell? ⟨w.heap.size + 1 + 1 + 1, 2, none⟩ = some (.bool d.far) := by go_simp
    have m4_4_0 : w4.cell? ⟨w1.heap.size, 0, none⟩ = some (.int .i64 X0) := by go_simp
    have m4_4_1 : w4.cell? ⟨w1.heap.size, 1, none⟩ = some (.int .i64 X1) := by go_simp
    have m4_5_0 : w4.cell? ⟨w1.heap.size + 1, 0, none⟩ = some (.int .i64 0) := by go_simp
    have m4_5_1 : w4.cell? ⟨w1.heap.size + 1, 1, none⟩ = some (.int .i64 0) := by go_simp
    have m4_6_0 : w4.cell? ⟨w3.heap.size, 0, none⟩ = some (.int .i64 X0) := by go_simp
    have m4_6_1 : w4.cell? ⟨w3.heap.size, 1, none⟩ = some (.int .i64 X1) := by go_simp
    clear m3_0_0 m3_0_1 m3_0_2 m3_1_0 m3_1_1 m3_1_2 m3_2_0 m3_2_1 m3_2_2 m3_3_0 m3_3_1 m3_3_2 m3_4_0 m3_4_1 m3_5_0 m3_5_1
    clear hc4
    have y4_0_0 : w4.frozen? ⟨w1.heap.size, 0, none⟩ = false := by go_simp
    have y4_0_1 : w4.frozen? ⟨w1.heap.size, 1, none⟩ = false := by go_simp
    have y4_1_0 : w4.frozen? ⟨w1.heap.size + 1, 0, none⟩ = false := by go_simp
    have y4_1_1 : w4.frozen? ⟨w1.heap.size + 1, 1, none⟩ = false := by go_simp
    have y4_2_0 : w4.frozen? ⟨w3.heap.size, 0, none⟩ = false := by go_simp
    have y4_2_1 : w4.frozen? ⟨w3.heap.size, 1, none⟩ = false := by go_simp
    clear z3 hB3 y3_0_0 y3_0_1 y3_1_0 y3_1_1 hf4
    go_upto_if 47 with fail
    go_cut [13] from 47 to 50 (fun s13 wx => s13 = .int .i64 E2 ∧ Below w.heap.size w wx ∧ w.heap.size < wx.heap.size ∧ w.heap.size + 1 < wx.heap.size ∧ w.heap.size + 1 + 1 < wx.heap.size ∧ w.heap.size + 1 + 1 + 1 < wx.heap.size ∧ w1.heap.size < wx.heap.size ∧ w1.heap.size + 1 < wx.heap.size ∧ w3.heap.size < wx.heap.size ∧ wx.cell? ⟨w.heap.size, 0, none⟩ = some (.int .i64 a.x) ∧ wx.cell? ⟨w.heap.size, 1, none⟩ = some (.int .i64 a.y) ∧ wx.cell? ⟨w.heap.size, 2, none⟩ = some (.bool a.far) ∧ wx.cell? ⟨w.heap.size + 1, 0, none⟩ = some (.int .i64 b.x) ∧ wx.cell? ⟨w.heap.size + 1, 1, none⟩ = some (.int .i64 b.y) ∧ wx.cell? ⟨w.heap.size + 1, 2, none⟩ = some (.bool b.far) ∧ wx.cell? ⟨w.heap.size + 1 + 1, 0, none⟩ = some (.int .i64 c.x) ∧ wx.cell? ⟨w.heap.size + 1 + 1, 1, none⟩ = some (.int .i64 c.y) ∧ wx.cell? ⟨w.heap.size + 1 + 1, 2, none⟩ = some (.bool c.far) ∧ wx.cell? ⟨w.heap.size + 1 + 1 + 1, 0, none⟩ = some (.int .i64 d.x) ∧ wx.cell? ⟨w.heap.size + 1 + 1 + 1, 1, none⟩ = some (.int .i64 d.y) ∧ wx.cell? ⟨w.heap.size + 1 + 1 + 1, 2, none⟩ = some (.bool d.far) ∧ wx.cell? ⟨w1.heap.size, 0, none⟩ = some (.int .i64 X0) ∧ wx.cell? ⟨w1.heap.size, 1, none⟩ = some (.int .i64 X1) ∧ wx.cell? ⟨w1.heap.size + 1, 0, none⟩ = some (.int .i64 0) ∧ wx.cell? ⟨w1.heap.size + 1, 1, none⟩ = some (.int .i64 0) ∧ wx.cell? ⟨w3.heap.size, 0, none⟩ = some (.int .i64 X0) ∧ wx.cell? ⟨w3.heap.size, 1, none⟩ = some (.int .i64 X1) ∧ wx.frozen? ⟨w1.heap.size, 0, none⟩ = false ∧ wx.frozen? ⟨w1.heap.size, 1, none⟩ = false ∧ wx.frozen? ⟨w1.heap.size + 1, 0, none⟩ = false ∧ wx.frozen? ⟨w1.heap.size + 1, 1, none⟩ = false ∧ wx.frozen? ⟨w3.heap.size, 0, none⟩ = false ∧ wx.frozen? ⟨w3.heap.size, 1, none⟩ = false)
    case first =>
      rcases h2.out with ⟨e1, e2⟩ | ⟨e1, e2⟩
      · subst e1
        replace e2 := Lib.hid e2
        clear h2
        go_wp2_with fail
        refine (e2.out _ (by repeat (first | with_reducible exact hB4 | with_reducible exact Below.refl _ _ | with_reducible refine below_set ?_ (by first | omega | (dsimp only; omega)) _ | with_reducible refine balloc ?_ _ | with_reducible refine Below.drew ?_ | with_reducible refine below_drewN ?_ _ | exact hB4 | exact Below.refl _ _ | refine balloc ?_ _ | refine Below.drew ?_ | refine below_drewN ?_ _ | refine below_set ?_ (by first | omega | (dsimp only; omega)) _))).mono ?_; rintro e w5 ⟨rfl, hb⟩
        obtain ⟨hc5, hf5⟩ := bcell hb
        have z5 := hb.size
        try simp only [World.size_alloc, World.size_setCell, World.size_drew] at z5
        have s5_0 : w.heap.size < w5.heap.size := by omega
        have s5_1 : w.heap.size + 1 < w5.heap.size := by omega
        have s5_2 : w.heap.size + 1 + 1 < w5.heap.size := by omega
        have s5_3 : w.heap.size + 1 + 1 + 1 < w5.heap.size := by omega
        have s5_4 : w1.heap.size < w5.heap.size := by omega
        have s5_5 : w1.heap.size + 1 < w5.heap.size := by omega
        have s5_6 : w3.heap.size < w5.heap.size := by omega
        have hB5 : Below w.heap.size w w5 := below_seq (by repeat (first | with_reducible exact hB4 | with_reducible exact Below.refl _ _ | with_reducible refine below_set ?_ (by first | omega | (dsimp only; omega)) _ | with_reducible refine balloc ?_ _ | with_reducible refine Below.drew ?_ | with_reducible refine below_drewN ?_ _ | exact hB4 | exact Below.refl _ _ | refine balloc ?_ _ | refine Below.drew ?_ | refine below_drewN ?_ _ | refine below_set ?_ (by first | omega | (dsimp only; omega)) _)) hb
        clear hb
        have m5_0_0 : w5.cell? ⟨w.heap.size, 0, none⟩ = some (.int .i64 a.x) := by go_simp
        have m5_0_1 : w5.cell? ⟨w.heap.size, 1, none⟩ = some (.int .i64 a.y) := by go_simp
        have m5_0_2 : w5.cell? ⟨w.heap.size, 2, none⟩ = some (.bool a.far) := by go_simp
        have m5_1_0 : w5.cell? ⟨w.heap.size + 1, 0, none⟩ = some (.int .i64 b.x) := by go_simp
        have m5_1_1 : w5.cell? ⟨w.heap.size + 1, 1, none⟩ = some (.int .i64 b.y) := by go_simp
        have m5_1_2 : w5.cell? ⟨w.heap.size + 1, 2, none⟩ = some (.bool b.far) := by go_simp
        have m5_2_0 : w5.cell? ⟨w.heap.size + 1 + 1, 0, none⟩ = some (.int .i64 c.x) := by go_simp
        have m5_2_1 : w5.cell? ⟨w.heap.size + 1 + 1, 1, none⟩ = some (.int .i64 c.y) := by go_simp
        have m5_2_2 : w5.cell? ⟨w.heap.size + 1 + 1, 2, none⟩ = some (.bool c.far) := by go_simp
        have m5_3_0 : w5.cell? ⟨w.heap.size + 1 + 1 + 1, 0, none⟩ = some (.int .i64 d.x) := by go_simp
        have m5_3_1 : w5.cell? ⟨w.heap.size + 1 + 1 + 1, 1, none⟩ = some (.int .i64 d.y) := by go_simp
        have m5_3_2 : w5.cell? ⟨w.heap.size + 1 + 1 + 1, 2, none⟩ = some (.bool d.far) := by go_simp
        have m5_4_0 : w5.cell? ⟨w1.heap.size, 0, none⟩ = some (.int .i64 X0) := by go_simp
        have m5_4_1 : w5.cell? ⟨w1.heap.size, 1, none⟩ = some (.int .i64 X1) := by go_simp
        have m5_5_0 : w5.cell? ⟨w1.heap.size + 1, 0, none⟩ = some (.int .i64 0) := by go_simp
        have m5_5_1 : w5.cell? ⟨w1.heap.size + 1, 1, none⟩ = some (.int .i64 0) := by go_simp
        have m5_6_0 : w5.cell? ⟨w3.heap.size, 0, none⟩ = some (.int .i64 X0) := by go_simp
        have m5_6_1 : w5.cell? ⟨w3.heap.size, 1, none⟩ = some (.int .i64 X1) := by go_simp
        clear m4_0_0 m4_0_1 m4_0_2 m4_1_0 m4_1_1 m4_1_2 m4_2_0 m4_2_1 m4_2_2 m4_3_0 m4_3_1 m4_3_2 m4_4_0 m4_4_1 m4_5_0 m4_5_1 m4_6_0 m4_6_1
        clear hc5
        have y5_0_0 : w5.frozen? ⟨w1.heap.size, 0, none⟩ = false := by go_simp
        have y5_0_1 : w5.frozen? ⟨w1.heap.size, 1, none⟩ = false := by go_simp
        have y5_1_0 : w5.frozen? ⟨w1.heap.size + 1, 0, none⟩ = false := by go_simp
        have y5_1_1 : w5.frozen? ⟨w1.heap.size + 1, 1, none⟩ = false := by go_simp
        have y5_2_0 : w5.frozen? ⟨w3.heap.size, 0, none⟩ = false := by go_simp
        have y5_2_1 : w5.frozen? ⟨w3.heap.size, 1, none⟩ = false := by go_simp
        clear z4 hB4 s4_0 s4_1 s4_2 s4_3 s4_4 s4_5 s4_6 y4_0_0 y4_0_1 y4_1_0 y4_1_1 y4_2_0 y4_2_1 hf5
        go_wp2_with fail
        go_meet
        exact ⟨rfl, (by repeat (first | with_reducible exact hB5 | with_reducible exact Below.refl _ _ | with_reducible refine below_set ?_ (by first | omega | (dsimp only; omega)) _ | with_reducible refine balloc ?_ _ | with_reducible refine Below.drew ?_ | with_reducible refine below_drewN ?_ _ | exact hB5 | exact Below.refl _ _ | refine balloc ?_ _ | refine Below.drew ?_ | refine below_drewN ?_ _ | refine below_set ?_ (by first | omega | (dsimp only; omega)) _)), (by first | with_reducible assumption | omega | (simp only [World.heap_drewN, World.size_alloc, World.size_setCell, World.size_drew]; omega)), (by first | with_reducible assumption | omega | (simp only [World.heap_drewN, World.size_alloc, World.size_setCell, World.size_drew]; omega)), (by first | with_reducible assumption | omega | (simp only [World.heap_drewN, World.size_alloc, World.size_setCell, World.size_drew]; omega)), (by first | with_reducible assumption | omega | (simp only [World.heap_drewN, World.size_alloc, World.size_setCell, World.size_drew]; omega)), (by first | with_reducible assumption | omega | (simp only [World.heap_drewN, World.size_alloc, World.size_setCell, World.size_drew]; omega)), (by first | with_reducible assumption | omega | (simp only [World.heap_drewN, World.size_alloc, World.size_setCell, World.size_drew]; omega)), (by first | with_reducible assumption | omega | (simp only [World.heap_drewN, World.size_alloc, World.size_setCell, World.size_drew]; omega)), (by first | with_reducible assumption | go_simp), (by first | with_reducible assumption | go_simp), (by first | with_reducible assumption | go_simp), (by first | with_reducible assumption | go_simp), (by first | with_reducible assumption | go_simp), (by first | with_reducible assumption | go_simp), (by first | with_reducible assumption | go_simp), (by first | with_reducible assumption | go_simp), (by first | with_reducible assumption | go_simp), (by first | with_reducible assumption | go_simp), (by first | with_reducible assumption | go_simp), (by first | with_reducible assumption | go_simp), (by first | with_reducible assumption | go_simp), (by first | with_reducible assumption | go_simp), (by first | with_reducible assumption | go_simp), (by first | with_reducible assumption | go_simp), (by first | with_reducible assumption | go_simp), (by first | with_reducible assumption | go_simp), (by first | with_reducible assumption | go_simp), (by first | with_reducible assumption | go_simp), (by first | with_reducible assumption | go_simp), (by first | with_reducible assumption | go_simp), (by first | with_reducible assumption | go_simp), (by first | with_reducible assumption | go_simp)⟩
      · subst e2
        clear h2
        go_wp2_with fail
        go_meet
        exact ⟨rfl, (by repeat (first | with_reducible exact hB4 | with_reducible exact Below.refl _ _ | with_reducible refine below_set ?_ (by first | omega | (dsimp only; omega)) _ | with_reducible refine balloc ?_ _ | with_reducible refine Below.drew ?_ | with_reducible refine below_drewN ?_ _ | exact hB4 | exact Below.refl _ _ | refine balloc ?_ _ | refine Below.drew ?_ | refine below_drewN ?_ _ | refine below_set ?_ (by first | omega | (dsimp only; omega)) _)), (by first | with_reducible assumption | omega | (simp only [World.heap_drewN, World.size_alloc, World.size_setCell, World.size_drew]; omega)), (by first | with_reducible assumption | omega | (simp only [World.heap_drewN, World.size_alloc, World.size_setCell, World.size_drew]; omega)), (by first | with_reducible assumption | omega | (simp only [World.heap_drewN, World.size_alloc, World.size_setCell, World.size_drew]; omega)), (by first | with_reducible assumption | omega | (simp only [World.heap_drewN, World.size_alloc, World.size_setCell, World.size_drew]; omega)), (by first | with_reducible assumption | omega | (simp only [World.heap_drewN, World.size_alloc, World.size_setCell, World.size_drew]; omega)), (by first | with_reducible assumption | omega | (simp only [World.heap_drewN, World.size_alloc, World.size_setCell, World.size_drew]; omega)), (by first | with_reducible assumption | omega | (simp only [World.heap_drewN, World.size_alloc, World.size_setCell, World.size_drew]; omega)), (by first | with_reducible assumption | go_simp), (by first | with_reducible assumption | go_simp), (by first | with_reducible assumption | go_simp), (by first | with_reducible assumption | go_simp), (by first | with_reducible assumption | go_simp), (by first | with_reducible assumption | go_simp), (by first | with_reducible assumption | go_simp), (by first | with_reducible assumption | go_simp), (by first | with_reducible assumption | go_simp), (by first | with_reducible assumption | go_simp), (by first | with_reducible assumption | go_simp), (by first | with_reducible assumption | go_simp), (by first | with_reducible assumption | go_simp), (by first | with_reducible assumption | go_simp), (by first | with_reducible assumption | go_simp), (by first | with_reducible assumption | go_simp), (by first | with_reducible assumption | go_simp), (by first | with_reducible assumption | go_simp), (by first | with_reducible assumption | go_simp), (by first | with_reducible assumption | go_simp), (by first | with_reducible assumption | go_simp), (by first | with_reducible assumption | go_simp), (by first | with_reducible assumption | go_simp), (by first | with_reducible assumption | go_simp)⟩
    case rest =>
      obtain ⟨w5, hwq⟩ : ∃ x, x = wc := ⟨_, rfl⟩
      subst hwq
      obtain ⟨rfl, hB5, s5_0, s5_1, s5_2, s5_3, s5_4, s5_5, s5_6, m5_0_0, m5_0_1, m5_0_2, m5_1_0, m5_1_1, m5_1_2, m5_2_0, m5_2_1, m5_2_2, m5_3_0, m5_3_1, m5_3_2, m5_4_0, m5_4_1, m5_5_0, m5_5_1, m5_6_0, m5_6_1, y5_0_0, y5_0_1, y5_1_0, y5_1_1, y5_2_0, y5_2_1⟩ := hcut
      clear m4_0_0 m4_0_1 m4_0_2 m4_1_0 m4_1_1 m4_1_2 m4_2_0 m4_2_1 m4_2_2 m4_3_0 m4_3_1 m4_3_2 m4_4_0 m4_4_1 m4_5_0 m4_5_1 m4_6_0 m4_6_1
      clear z4 hB4 s4_0 s4_1 s4_2 s4_3 s4_4 s4_5 s4_6 y4_0_0 y4_0_1 y4_1_0 y4_1_1 y4_2_0 y4_2_1
      clear h2 k1 kP
      go_upto_if 52 with fail
      go_cut [19] from 52 to 55 (fun s19 wx => True ∧ Below w.heap.size w wx ∧ w.heap.size < wx.heap.size ∧ w.heap.size + 1 < wx.heap.size ∧ w.heap.size + 1 + 1 < wx.heap.size ∧ w.heap.size + 1 + 1 + 1 < wx.heap.size ∧ w1.heap.size < wx.heap.size ∧ w1.heap.size + 1 < wx.heap.size ∧ w3.heap.size < wx.heap.size ∧ wx.cell? ⟨w.heap.size, 0, none⟩ = some (.int .i64 a.x) ∧ wx.cell? ⟨w.heap.size, 1, none⟩ = some (.int .i64 a.y) ∧ wx.cell? ⟨w.heap.size, 2, none⟩ = some (.bool a.far) ∧ wx.cell? ⟨w.heap.size + 1, 0, none⟩ = some (.int .i64 b.x) ∧ wx.cell? ⟨w.heap.size + 1, 1, none⟩ = some (.int .i64 b.y) ∧ wx.cell? ⟨w.heap.size + 1, 2, none⟩ = some (.bool b.far) ∧ wx.cell? ⟨w.heap.size + 1 + 1, 0, none⟩ = some (.int .i64 c.x) ∧ wx.cell? ⟨w.heap.size + 1 + 1, 1, none⟩ = some (.int .i64 c.y) ∧ wx.cell? ⟨w.heap.size + 1 + 1, 2, none⟩ = some (.bool c.far) ∧ wx.cell? ⟨w.heap.size + 1 + 1 + 1, 0, none⟩ = some (.int .i64 d.x) ∧ wx.cell? ⟨w.heap.size + 1 + 1 + 1, 1, none⟩ = some (.int .i64 d.y) ∧ wx.cell? ⟨w.heap.size + 1 + 1 + 1, 2, none⟩ = some (.bool d.far) ∧ wx.cell? ⟨w1.heap.size, 0, none⟩ = some (.int .i64 X0) ∧ wx.cell? ⟨w1.heap.size, 1, none⟩ = some (.int .i64 X1) ∧ wx.cell? ⟨w1.heap.size + 1, 0, none⟩ = some (.int .i64 Y0) ∧ wx.cell? ⟨w1.heap.size + 1, 1, none⟩ = some (.int .i64 Y1) ∧ wx.cell? ⟨w3.heap.size, 0, none⟩ = some (.int .i64 X0) ∧ wx.cell? ⟨w3.heap.size, 1, none⟩ = some (.int .i64 X1) ∧ wx.frozen? ⟨w1.heap.size, 0, none⟩ = false ∧ wx.frozen? ⟨w1.heap.size, 1, none⟩ = false ∧ wx.frozen? ⟨w1.heap.size + 1, 0, none⟩ = false ∧ wx.frozen? ⟨w1.heap.size + 1, 1, none⟩ = false ∧ wx.frozen? ⟨w3.heap.size, 0, none⟩ = false ∧ wx.frozen? ⟨w3.heap.size, 1, none⟩ = false)
      case first =>
        rcases h3.out with ⟨e1, e2⟩ | ⟨e1, e2, e3⟩
        · subst e1
          replace e2 := Lib.hid e2
          clear h3
          go_wp2_with fail
          refine (e2.out _ (by repeat (first | with_reducible exact hB5 | with_reducible exact Below.refl _ _ | with_reducible refine below_set ?_ (by first | omega | (dsimp only; omega)) _ | with_reducible refine balloc ?_ _ | with_reducible refine Below.drew ?_ | with_reducible refine below_drewN ?_ _ | exact hB5 | exact Below.refl _ _ | refine balloc ?_ _ | refine Below.drew ?_ | refine below_drewN ?_ _ | refine below_set ?_ (by first | omega | (dsimp only; omega)) _))).mono ?_; rintro e w6 ⟨rfl, hb⟩
          obtain ⟨hc6, hf6⟩ := bcell hb
          have z6 := hb.size
          try simp only [World.size_alloc, World.size_setCell, World.size_drew] at z6
          have s6_0 : w.heap.size < w6.heap.size := by omega
          have s6_1 : w.heap.size + 1 < w6.heap.size := by omega
          have s6_2 : w.heap.size + 1 + 1 < w6.heap.size := by omega
          have s6_3 : w.heap.size + 1 + 1 + 1 < w6.heap.size := by omega
          have s6_4 : w1.heap.size < w6.heap.size := by omega
          have s6_5 : w1.heap.size + 1 < w6.heap.size := by omega
          have s6_6 : w3.heap.size < w6.heap.size := by omega
          have hB6 : Below w.heap.size w w6 := below_seq (by repeat (first | with_reducible exact hB5 | with_reducible exact Below.refl _ _ | with_reducible refine below_set ?_ (by first | omega | (dsimp only; omega)) _ | with_reducible refine balloc ?_ _ | with_reducible refine Below.drew ?_ | with_reducible refine below_drewN ?_ _ | exact hB5 | exact Below.refl _ _ | refine balloc ?_ _ | refine Below.drew ?_ | refine below_drewN ?_ _ | refine below_set ?_ (by first | omega | (dsimp only; omega)) _)) hb
          clear hb
          have m6_0_0 : w6.cell? ⟨w.heap.size, 0, none⟩ = some (.int .i64 a.x) := by go_simp
          have m6_0_1 : w6.cell? ⟨w.heap.size, 1, none⟩ = some (.int .i64 a.y) := by go_simp
          have m6_0_2 : w6.cell? ⟨w.heap.size, 2, none⟩ = some (.bool a.far) := by go_simp
          have m6_1_0 : w6.cell? ⟨w.heap.size + 1, 0, none⟩ = some (.int .i64 b.x) := by go_simp
          have m6_1_1 : w6.cell? ⟨w.heap.size + 1, 1, none⟩ = some (.int .i64 b.y) := by go_simp
          have m6_1_2 : w6.cell? ⟨w.heap.size + 1, 2, none⟩ = some (.bool b.far) := by go_simp
          have m6_2_0 : w6.cell? ⟨w.heap.size + 1 + 1, 0, none⟩ = some (.int .i64 c.x) := by go_simp
          have m6_2_1 : w6.cell? ⟨w.heap.size + 1 + 1, 1, none⟩ = some (.int .i64 c.y) := by go_simp
          have m6_2_2 : w6.cell? ⟨w.heap.size + 1 + 1, 2, none⟩ = some (.bool c.far) := by go_simp
          have m6_3_0 : w6.cell? ⟨w.heap.size + 1 + 1 + 1, 0, none⟩ = some (.int .i64 d.x) := by go_simp
          have m6_3_1 : w6.cell? ⟨w.heap.size + 1 + 1 + 1, 1, none⟩ = some (.int .i64 d.y) := by go_simp
          have m6_3_2 : w6.cell? ⟨w.heap.size + 1 + 1 + 1, 2, none⟩ = some (.bool d.far) := by go_simp
          have m6_4_0 : w6.cell? ⟨w1.heap.size, 0, none⟩ = some (.int .i64 X0) := by go_simp
          have m6_4_1 : w6.cell? ⟨w1.heap.size, 1, none⟩ = some (.int .i64 X1) := by go_simp
          have m6_5_0 : w6.cell? ⟨w1.heap.size + 1, 0, none⟩ = some (.int .i64 0) := by go_simp
          have m6_5_1 : w6.cell? ⟨w1.heap.size + 1, 1, none⟩ = some (.int .i64 0) := by go_simp
          have m6_6_0 : w6.cell? ⟨w3.heap.size, 0, none⟩ = some (.int .i64 X0) := by go_simp
          have m6_6_1 : w6.cell? ⟨w3.heap.size, 1, none⟩ = some (.int .i64 X1) := by go_simp
          clear m5_0_0 m5_0_1 m5_0_2 m5_1_0 m5_1_1 m5_1_2 m5_2_0 m5_2_1 m5_2_2 m5_3_0 m5_3_1 m5_3_2 m5_4_0 m5_4_1 m5_5_0 m5_5_1 m5_6_0 m5_6_1
          clear hc6
          have y6_0_0 : w6.frozen? ⟨w1.heap.size, 0, none⟩ = false := by go_simp
          have y6_0_1 : w6.frozen? ⟨w1.heap.size, 1, none⟩ = false := by go_simp
          have y6_1_0 : w6.frozen? ⟨w1.heap.size + 1, 0, none⟩ = false := by go_simp
          have y6_1_1 : w6.frozen? ⟨w1.heap.size + 1, 1, none⟩ = false := by go_simp
          have y6_2_0 : w6.frozen? ⟨w3.heap.size, 0, none⟩ = false := by go_simp
          have y6_2_1 : w6.frozen? ⟨w3.heap.size, 1, none⟩ = false := by go_simp
          clear hB5 s5_0 s5_1 s5_2 s5_3 s5_4 s5_5 s5_6 y5_0_0 y5_0_1 y5_1_0 y5_1_1 y5_2_0 y5_2_1 hf6
          go_wp2_with fail
          go_meet
          exact ⟨trivial, (by repeat (first | with_reducible exact hB6 | with_reducible exact Below.refl _ _ | with_reducible refine below_set ?_ (by first | omega | (dsimp only; omega)) _ | with_reducible refine balloc ?_ _ | with_reducible refine Below.drew ?_ | with_reducible refine below_drewN ?_ _ | exact hB6 | exact Below.refl _ _ | refine balloc ?_ _ | refine Below.drew ?_ | refine below_drewN ?_ _ | refine below_set ?_ (by first | omega | (dsimp only; omega)) _)), (by first | with_reducible assumption | omega | (simp only [World.heap_drewN, World.size_alloc, World.size_setCell, World.size_drew]; omega)), (by first | with_reducible assumption | omega | (simp only [World.heap_drewN, World.size_alloc, World.size_setCell, World.size_drew]; omega)), (by first | with_reducible assumption | omega | (simp only [World.heap_drewN, World.size_alloc, World.size_setCell, World.size_drew]; omega)), (by first | with_reducible assumption | omega | (simp only [World.heap_drewN, World.size_alloc, World.size_setCell, World.size_drew]; omega)), (by first | with_reducible assumption | omega | (simp only [World.heap_drewN, World.size_alloc, World.size_setCell, World.size_drew]; omega)), (by first | with_reducible assumption | omega | (simp only [World.heap_drewN, World.size_alloc, World.size_setCell, World.size_drew]; omega)), (by first | with_reducible assumption | omega | (simp only [World.heap_drewN, World.size_alloc, World.size_setCell, World.size_drew]; omega)), (by first | with_reducible assumption | go_simp), (by first | with_reducible assumption | go_simp), (by first | with_reducible assumption | go_simp), (by first | with_reducible assumption | go_simp), (by first | with_reducible assumption | go_simp), (by first | with_reducible assumption | go_simp), (by first | with_reducible assumption | go_simp), (by first | with_reducible assumption | go_simp), (by first | with_reducible assumption | go_simp), (by first | with_reducible assumption | go_simp), (by first | with_reducible assumption | go_simp), (by first | with_reducible assumption | go_simp), (by first | with_reducible assumption | go_simp), (by first | with_reducible assumption | go_simp), (by first | with_reducible assumption | go_simp), (by first | with_reducible assumption | go_simp), (by first | with_reducible assumption | go_simp), (by first | with_reducible assumption | go_simp), (by first | with_reducible assumption | go_simp), (by first | with_reducible assumption | go_simp), (by first | with_reducible assumption | go_simp), (by first | with_reducible assumption | go_simp), (by first | with_reducible assumption | go_simp), (by first | with_reducible assumption | go_simp)⟩
        · subst e2 e3
          clear h3
          go_wp2_with fail
          go_meet
          exact ⟨trivial, (by repeat (first | with_reducible exact hB5 | with_reducible exact Below.refl _ _ | with_reducible refine below_set ?_ (by first | omega | (dsimp only; omega)) _ | with_reducible refine balloc ?_ _ | with_reducible refine Below.drew ?_ | with_reducible refine below_drewN ?_ _ | exact hB5 | exact Below.refl _ _ | refine balloc ?_ _ | refine Below.drew ?_ | refine below_drewN ?_ _ | refine below_set ?_ (by first | omega | (dsimp only; omega)) _)), (by first | with_reducible assumption | omega | (simp only [World.heap_drewN, World.size_alloc, World.size_setCell, World.size_drew]; omega)), (by first | with_reducible assumption | omega | (simp only [World.heap_drewN, World.size_alloc, World.size_setCell, World.size_drew]; omega)), (by first | with_reducible assumption | omega | (simp only [World.heap_drewN, World.size_alloc, World.size_setCell, World.size_drew]; omega)), (by first | with_reducible assumption | omega | (simp only [World.heap_drewN, World.size_alloc, World.size_setCell, World.size_drew]; omega)), (by first | with_reducible assumption | omega | (simp only [World.heap_drewN, World.size_alloc, World.size_setCell, World.size_drew]; omega)), (by first | with_reducible assumption | omega | (simp only [World.heap_drewN, World.size_alloc, World.size_setCell, World.size_drew]; omega)), (by first | with_reducible assumption | omega | (simp only [World.heap_drewN, World.size_alloc, World.size_setCell, World.size_drew]; omega)), (by first | with_reducible assumption | go_simp), (by first | with_reducible assumption | go_simp), (by first | with_reducible assumption | go_simp), (by first | with_reducible assumption | go_simp), (by first | with_reducible assumption | go_simp), (by first | with_reducible assumption | go_simp), (by first | with_reducible assumption | go_simp), (by first | with_reducible assumption | go_simp), (by first | with_reducible assumption | go_simp), (by first | with_reducible assumption | go_simp), (by first | with_reducible assumption | go_simp), (by first | with_reducible assumption | go_simp), (by first | with_reducible assumption | go_simp), (by first | with_reducible assumption | go_simp), (by first | with_reducible assumption | go_simp), (by first | with_reducible assumption | go_simp), (by first | with_reducible assumption | go_simp), (by first | with_reducible assumption | go_simp), (by first | with_reducible assumption | go_simp), (by first | with_reducible assumption | go_simp), (by first | with_reducible assumption | go_simp), (by first | with_reducible assumption | go_simp), (by first | with_reducible assumption | go_simp), (by first | with_reducible assumption | go_simp)⟩
      case rest =>
        obtain ⟨w6, hwq⟩ : ∃ x, x = wc := ⟨_, rfl⟩
        subst hwq
        obtain ⟨-, hB6, s6_0, s6_1, s6_2, s6_3, s6_4, s6_5, s6_6, m6_0_0, m6_0_1, m6_0_2, m6_1_0, m6_1_1, m6_1_2, m6_2_0, m6_2_1, m6_2_2, m6_3_0, m6_3_1, m6_3_2, m6_4_0, m6_4_1, m6_5_0, m6_5_1, m6_6_0, m6_6_1, y6_0_0, y6_0_1, y6_1_0, y6_1_1, y6_2_0, y6_2_1⟩ := hcut
        clear m5_0_0 m5_0_1 m5_0_2 m5_1_0 m5_1_1 m5_1_2 m5_2_0 m5_2_1 m5_2_2 m5_3_0 m5_3_1 m5_3_2 m5_4_0 m5_4_1 m5_5_0 m5_5_1 m5_6_0 m5_6_1
        clear hB5 s5_0 s5_1 s5_2 s5_3 s5_4 s5_5 s5_6 y5_0_0 y5_0_1 y5_1_0 y5_1_1 y5_2_0 y5_2_1
        clear h3
        go_wp2_with fail
        refine (kS.out _ (by repeat (first | with_reducible exact hB6 | with_reducible exact Below.refl _ _ | with_reducible refine below_set ?_ (by first | omega | (dsimp only; omega)) _ | with_reducible refine balloc ?_ _ | with_reducible refine Below.drew ?_ | with_reducible refine below_drewN ?_ _ | exact hB6 | exact Below.refl _ _ | refine balloc ?_ _ | refine Below.drew ?_ | refine below_drewN ?_ _ | refine below_set ?_ (by first | omega | (dsimp only; omega)) _))).mono ?_; rintro e w7 ⟨rfl, hb⟩
        obtain ⟨hc7, hf7⟩ := bcell hb
        have z7 := hb.size
        try simp only [World.size_alloc, World.size_setCell, World.size_drew] at z7
        have s7_0 : w.heap.size < w7.heap.size := by omega
        have s7_1 : w.heap.size + 1 < w7.heap.size := by omega
        have s7_2 : w.heap.size + 1 + 1 < w7.heap.size := by omega
        have s7_3 : w.heap.size + 1 + 1 + 1 < w7.heap.size := by omega
        have s7_4 : w1.heap.size < w7.heap.size := by omega
        have s7_5 : w1.heap.size + 1 < w7.heap.size := by omega
        have s7_6 : w3.heap.size < w7.heap.size := by omega
        have hB7 : Below w.heap.size w w7 := below_seq (by repeat (first | with_reducible exact hB6 | with_reducible exact Below.refl _ _ | with_reducible refine below_set ?_ (by first | omega | (dsimp only; omega)) _ | with_reducible refine balloc ?_ _ | with_reducible refine Below.drew ?_ | with_reducible refine below_drewN ?_ _ | exact hB6 | exact Below.refl _ _ | refine balloc ?_ _ | refine Below.drew ?_ | refine below_drewN ?_ _ | refine below_set ?_ (by first | omega | (dsimp only; omega)) _)) hb
        clear hb
        have m7_0_0 : w7.cell? ⟨w.heap.size, 0, none⟩ = some (.int .i64 a.x) := by go_simp
        have m7_0_1 : w7.cell? ⟨w.heap.size, 1, none⟩ = some (.int .i64 a.y) := by go_simp
        have m7_0_2 : w7.cell? ⟨w.heap.size, 2, none⟩ = some (.bool a.far) := by go_simp
        have m7_1_0 : w7.cell? ⟨w.heap.size + 1, 0, none⟩ = some (.int .i64 b.x) := by go_simp
        have m7_1_1 : w7.cell? ⟨w.heap.size + 1, 1, none⟩ = some (.int .i64 b.y) := by go_simp
        have m7_1_2 : w7.cell? ⟨w.heap.size + 1, 2, none⟩ = some (.bool b.far) := by go_simp
        have m7_2_0 : w7.cell? ⟨w.heap.size + 1 + 1, 0, none⟩ = some (.int .i64 c.x) := by go_simp
        have m7_2_1 : w7.cell? ⟨w.heap.size + 1 + 1, 1, none⟩ = some (.int .i64 c.y) := by go_simp
        have m7_2_2 : w7.cell? ⟨w.heap.size + 1 + 1, 2, none⟩ = some (.bool c.far) := by go_simp
        have m7_3_0 : w7.cell? ⟨w.heap.size + 1 + 1 + 1, 0, none⟩ = some (.int .i64 d.x) := by go_simp
        have m7_3_1 : w7.cell? ⟨w.heap.size + 1 + 1 + 1, 1, none⟩ = some (.int .i64 d.y) := by go_simp
        have m7_3_2 : w7.cell? ⟨w.heap.size + 1 + 1 + 1, 2, none⟩ = some (.bool d.far) := by go_simp
        have m7_4_0 : w7.cell? ⟨w1.heap.size, 0, none⟩ = some (.int .i64 X0) := by go_simp
        have m7_4_1 : w7.cell? ⟨w1.heap.size, 1, none⟩ = some (.int .i64 X1) := by go_simp
        have m7_5_0 : w7.cell? ⟨w1.heap.size + 1, 0, none⟩ = some (.int .i64 Y0) := by go_simp
        have m7_5_1 : w7.cell? ⟨w1.heap.size + 1, 1, none⟩ = some (.int .i64 Y1) := by go_simp
        have m7_6_0 : w7.cell? ⟨w3.heap.size, 0, none⟩ = some (.int .i64 X0) := by go_simp
        have m7_6_1 : w7.cell? ⟨w3.heap.size, 1, none⟩ = some (.int .i64 X1) := by go_simp
        clear m6_0_0 m6_0_1 m6_0_2 m6_1_0 m6_1_1 m6_1_2 m6_2_0 m6_2_1 m6_2_2 m6_3_0 m6_3_1 m6_3_2 m6_4_0 m6_4_1 m6_5_0 m6_5_1 m6_6_0 m6_6_1
        clear hc7
        have y7_0_0 : w7.frozen? ⟨w1.heap.size, 0, none⟩ = false := by go_simp
        have y7_0_1 : w7.frozen? ⟨w1.heap.size, 1, none⟩ = false := by go_simp
        have y7_1_0 : w7.frozen? ⟨w1.heap.size + 1, 0, none⟩ = false := by go_simp
        have y7_1_1 : w7.frozen? ⟨w1.heap.size + 1, 1, none⟩ = false := by go_simp
        have y7_2_0 : w7.frozen? ⟨w3.heap.size, 0, none⟩ = false := by go_simp
        have y7_2_1 : w7.frozen? ⟨w3.heap.size, 1, none⟩ = false := by go_simp
        clear hB6 s6_0 s6_1 s6_2 s6_3 s6_4 s6_5 s6_6 y6_0_0 y6_0_1 y6_1_0 y6_1_1 y6_2_0 y6_2_1 hf7
        go_upto_region 12 with fail
        go_cut [20] from 64 to 77 (fun s20 wx => s20 = .bool true ∧ Below w.heap.size w wx ∧ w.heap.size < wx.heap.size ∧ w.heap.size + 1 < wx.heap.size ∧ w.heap.size + 1 + 1 < wx.heap.size ∧ w.heap.size + 1 + 1 + 1 < wx.heap.size ∧ w1.heap.size < wx.heap.size ∧ w1.heap.size + 1 < wx.heap.size ∧ w3.heap.size < wx.heap.size ∧ wx.cell? ⟨w.heap.size, 0, none⟩ = some (.int .i64 a.x) ∧ wx.cell? ⟨w.heap.size, 1, none⟩ = some (.int .i64 a.y) ∧ wx.cell? ⟨w.heap.size, 2, none⟩ = some (.bool a.far) ∧ wx.cell? ⟨w.heap.size + 1, 0, none⟩ = some (.int .i64 b.x) ∧ wx.cell? ⟨w.heap.size + 1, 1, none⟩ = some (.int .i64 b.y) ∧ wx.cell? ⟨w.heap.size + 1, 2, none⟩ = some (.bool b.far) ∧ wx.cell? ⟨w.heap.size + 1 + 1, 0, none⟩ = some (.int .i64 c.x) ∧ wx.cell? ⟨w.heap.size + 1 + 1, 1, none⟩ = some (.int .i64 c.y) ∧ wx.cell? ⟨w.heap.size + 1 + 1, 2, none⟩ = some (.bool c.far) ∧ wx.cell? ⟨w.heap.size + 1 + 1 + 1, 0, none⟩ = some (.int .i64 d.x) ∧ wx.cell? ⟨w.heap.size + 1 + 1 + 1, 1, none⟩ = some (.int .i64 d.y) ∧ wx.cell? ⟨w.heap.size + 1 + 1 + 1, 2, none⟩ = some (.bool d.far) ∧ wx.cell? ⟨w1.heap.size, 0, none⟩ = some (.int .i64 X0) ∧ wx.cell? ⟨w1.heap.size, 1, none⟩ = some (.int .i64 X1) ∧ wx.cell? ⟨w1.heap.size + 1, 0, none⟩ = some (.int .i64 Y0) ∧ wx.cell? ⟨w1.heap.size + 1, 1, none⟩ = some (.int .i64 Y1) ∧ wx.cell? ⟨w3.heap.size, 0, none⟩ = some (.int .i64 X0) ∧ wx.cell? ⟨w3.heap.size, 1, none⟩ = some (.int .i64 X1) ∧ wx.frozen? ⟨w1.heap.size, 0, none⟩ = false ∧ wx.frozen? ⟨w1.heap.size, 1, none⟩ = false ∧ wx.frozen? ⟨w1.heap.size + 1, 0, none⟩ = false ∧ wx.frozen? ⟨w1.heap.size + 1, 1, none⟩ = false ∧ wx.frozen? ⟨w3.heap.size, 0, none⟩ = false ∧ wx.frozen? ⟨w3.heap.size, 1, none⟩ = false)
        case first =>
          rcases hq.out with ⟨e1, e2⟩ | ⟨e1, e2⟩
          · subst e1
            clear hq
            go_wp2_with fail
            refine (error_same (errV 0) 0 _ (hE.below (by repeat (first | with_reducible exact hB7 | with_reducible exact Below.refl _ _ | with_reducible refine below_set ?_ (by first | omega | (dsimp only; omega)) _ | with_reducible refine balloc ?_ _ | with_reducible refine Below.drew ?_ | with_reducible refine below_drewN ?_ _ | exact hB7 | exact Below.refl _ _ | refine balloc ?_ _ | refine Below.drew ?_ | refine below_drewN ?_ _ | refine below_set ?_ (by first | omega | (dsimp only; omega)) _))) (Lib.hid rfl)).mono ?_; rintro e w8 ⟨rfl, hb⟩
            obtain ⟨hc8, hf8⟩ := bcell hb
            have z8 := hb.size
            try simp only [World.size_alloc, World.size_setCell, World.size_drew] at z8
            have s8_0 : w.heap.size < w8.heap.size := by omega
            have s8_1 : w.heap.size + 1 < w8.heap.size := by omega
            have s8_2 : w.heap.size + 1 + 1 < w8.heap.size := by omega
            have s8_3 : w.heap.size + 1 + 1 + 1 < w8.heap.size := by omega
            have s8_4 : w1.heap.size < w8.heap.size := by omega
            have s8_5 : w1.heap.size + 1 < w8.heap.size := by omega
            have s8_6 : w3.heap.size < w8.heap.size := by omega
            have hB8 : Below w.heap.size w w8 := below_seq (by repeat (first | with_reducible exact hB7 | with_reducible exact Below.refl _ _ | with_reducible refine below_set ?_ (by first | omega | (dsimp only; omega)) _ | with_reducible refine balloc ?_ _ | with_reducible refine Below.drew ?_ | with_reducible refine below_drewN ?_ _ | exact hB7 | exact Below.refl _ _ | refine balloc ?_ _ | refine Below.drew ?_ | refine below_drewN ?_ _ | refine below_set ?_ (by first | omega | (dsimp only; omega)) _)) hb
            clear hb
            have m8_0_0 : w8.cell? ⟨w.heap.size, 0, none⟩ = some (.int .i64 a.x) := by go_simp
            have m8_0_1 : w8.cell? ⟨w.heap.size, 1, none⟩ = some (.int .i64 a.y) := by go_simp
            have m8_0_2 : w8.cell? ⟨w.heap.size, 2, none⟩ = some (.bool a.far) := by go_simp
            have m8_1_0 : w8.cell? ⟨w.heap.size + 1, 0, none⟩ = some (.int .i64 b.x) := by go_simp
            have m8_1_1 : w8.cell? ⟨w.heap.size + 1, 1, none⟩ = some (.int .i64 b.y) := by go_simp
            have m8_1_2 : w8.cell? ⟨w.heap.size + 1, 2, none⟩ = some (.bool b.far) := by go_simp
            have m8_2_0 : w8.cell? ⟨w.heap.size + 1 + 1, 0, none⟩ = some (.int .i64 c.x) := by go_simp
            have m8_2_1 : w8.cell? ⟨w.heap.size + 1 + 1, 1, none⟩ = some (.int .i64 c.y) := by go_simp
            have m8_2_2 : w8.cell? ⟨w.heap.size + 1 + 1, 2, none⟩ = some (.bool c.far) := by go_simp
            have m8_3_0 : w8.cell? ⟨w.heap.size + 1 + 1 + 1, 0, none⟩ = some (.int .i64 d.x) := by go_simp
            have m8_3_1 : w8.cell? ⟨w.heap.size + 1 + 1 + 1, 1, none⟩ = some (.int .i64 d.y) := by go_simp
            have m8_3_2 : w8.cell? ⟨w.heap.size + 1 + 1 + 1, 2, none⟩ = some (.bool d.far) := by go_simp
            have m8_4_0 : w8.cell? ⟨w1.heap.size, 0, none⟩ = some (.int .i64 X0) := by go_simp
            have m8_4_1 : w8.cell? ⟨w1.heap.size, 1, none⟩ = some (.int .i64 X1) := by go_simp
            have m8_5_0 : w8.cell? ⟨w1.heap.size + 1, 0, none⟩ = some (.int .i64 Y0) := by go_simp
            have m8_5_1 : w8.cell? ⟨w1.heap.size + 1, 1, none⟩ = some (.int .i64 Y1) := by go_simp
            have m8_6_0 : w8.cell? ⟨w3.heap.size, 0, none⟩ = some (.int .i64 X0) := by go_simp
            have m8_6_1 : w8.cell? ⟨w3.heap.size, 1, none⟩ = some (.int .i64 X1) := by go_simp
            clear m7_0_0 m7_0_1 m7_0_2 m7_1_0 m7_1_1 m7_1_2 m7_2_0 m7_2_1 m7_2_2 m7_3_0 m7_3_1 m7_3_2 m7_4_0 m7_4_1 m7_5_0 m7_5_1 m7_6_0 m7_6_1
            clear hc8
            have y8_0_0 : w8.frozen? ⟨w1.heap.size, 0, none⟩ = false := by go_simp
            have y8_0_1 : w8.frozen? ⟨w1.heap.size, 1, none⟩ = false := by go_simp
            have y8_1_0 : w8.frozen? ⟨w1.heap.size + 1, 0, none⟩ = false := by go_simp
            have y8_1_1 : w8.frozen? ⟨w1.heap.size + 1, 1, none⟩ = false := by go_simp
            have y8_2_0 : w8.frozen? ⟨w3.heap.size, 0, none⟩ = false := by go_simp
            have y8_2_1 : w8.frozen? ⟨w3.heap.size, 1, none⟩ = false := by go_simp
            clear z7 hB7 s7_0 s7_1 s7_2 s7_3 s7_4 s7_5 s7_6 y7_0_0 y7_0_1 y7_1_0 y7_1_1 y7_2_0 y7_2_1 hf8
            go_wp2_with fail
            go_meet
            exact ⟨rfl, (by repeat (first | with_reducible exact hB8 | with_reducible exact Below.refl _ _ | with_reducible refine below_set ?_ (by first | omega | (dsimp only; omega)) _ | with_reducible refine balloc ?_ _ | with_reducible refine Below.drew ?_ | with_reducible refine below_drewN ?_ _ | exact hB8 | exact Below.refl _ _ | refine balloc ?_ _ | refine Below.drew ?_ | refine below_drewN ?_ _ | refine below_set ?_ (by first | omega | (dsimp only; omega)) _)), (by first | with_reducible assumption | omega | (simp only [World.heap_drewN, World.size_alloc, World.size_setCell, World.size_drew]; omega)), (by first | with_reducible assumption | omega | (simp only [World.heap_drewN, World.size_alloc, World.size_setCell, World.size_drew]; omega)), (by first | with_reducible assumption | omega | (simp only [World.heap_drewN, World.size_alloc, World.size_setCell, World.size_drew]; omega)), (by first | with_reducible assumption | omega | (simp only [World.heap_drewN, World.size_alloc, World.size_setCell, World.size_drew]; omega)), (by first | with_reducible assumption | omega | (simp only [World.heap_drewN, World.size_alloc, World.size_setCell, World.size_drew]; omega)), (by first | with_reducible assumption | omega | (simp only [World.heap_drewN, World.size_alloc, World.size_setCell, World.size_drew]; omega)), (by first | with_reducible assumption | omega | (simp only [World.heap_drewN, World.size_alloc, World.size_setCell, World.size_drew]; omega)), (by first | with_reducible assumption | go_simp), (by first | with_reducible assumption | go_simp), (by first | with_reducible assumption | go_simp), (by first | with_reducible assumption | go_simp), (by first | with_reducible assumption | go_simp), (by first | with_reducible assumption | go_simp), (by first | with_reducible assumption | go_simp), (by first | with_reducible assumption | go_simp), (by first | with_reducible assumption | go_simp), (by first | with_reducible assumption | go_simp), (by first | with_reducible assumption | go_simp), (by first | with_reducible assumption | go_simp), (by first | with_reducible assumption | go_simp), (by first | with_reducible assumption | go_simp), (by first | with_reducible assumption | go_simp), (by first | with_reducible assumption | go_simp), (by first | with_reducible assumption | go_simp), (by first | with_reducible assumption | go_simp), (by first | with_reducible assumption | go_simp), (by first | with_reducible assumption | go_simp), (by first | with_reducible assumption | go_simp), (by first | with_reducible assumption | go_simp), (by first | with_reducible assumption | go_simp), (by first | with_reducible assumption | go_simp)⟩
          · subst e2
            clear hq
            go_wp2_with fail
            refine (error_same (errV E2) E2 _ (hE.below (by repeat (first | with_reducible exact hB7 | with_reducible exact Below.refl _ _ | with_reducible refine below_set ?_ (by first | omega | (dsimp only; omega)) _ | with_reducible refine balloc ?_ _ | with_reducible refine Below.drew ?_ | with_reducible refine below_drewN ?_ _ | exact hB7 | exact Below.refl _ _ | refine balloc ?_ _ | refine Below.drew ?_ | refine below_drewN ?_ _ | refine below_set ?_ (by first | omega | (dsimp only; omega)) _))) (Lib.hid rfl)).mono ?_; rintro e w8 ⟨rfl, hb⟩
            obtain ⟨hc8, hf8⟩ := bcell hb
            have z8 := hb.size
            try simp only [World.size_alloc, World.size_setCell, World.size_drew] at z8
            have s8_0 : w.heap.size < w8.heap.size := by omega
            have s8_1 : w.heap.size + 1 < w8.heap.size := by omega
            have s8_2 : w.heap.size + 1 + 1 < w8.heap.size := by omega
            have s8_3 : w.heap.size + 1 + 1 + 1 < w8.heap.size := by omega
            have s8_4 : w1.heap.size < w8.heap.size := by omega
            have s8_5 : w1.heap.size + 1 < w8.heap.size := by omega
            have s8_6 : w3.heap.size < w8.heap.size := by omega
            have hB8 : Below w.heap.size w w8 := below_seq (by repeat (first | with_reducible exact hB7 | with_reducible exact Below.refl _ _ | with_reducible refine below_set ?_ (by first | omega | (dsimp only; omega)) _ | with_reducible refine balloc ?_ _ | with_reducible refine Below.drew ?_ | with_reducible refine below_drewN ?_ _ | exact hB7 | exact Below.refl _ _ | refine balloc ?_ _ | refine Below.drew ?_ | refine below_drewN ?_ _ | refine below_set ?_ (by first | omega | (dsimp only; omega)) _)) hb
            clear hb
            have m8_0_0 : w8.cell? ⟨w.heap.size, 0, none⟩ = some (.int .i64 a.x) := by go_simp
            have m8_0_1 : w8.cell? ⟨w.heap.size, 1, none⟩ = some (.int .i64 a.y) := by go_simp
            have m8_0_2 : w8.cell? ⟨w.heap.size, 2, none⟩ = some (.bool a.far) := by go_simp
            have m8_1_0 : w8.cell? ⟨w.heap.size + 1, 0, none⟩ = some (.int .i64 b.x) := by go_simp
            have m8_1_1 : w8.cell? ⟨w.heap.size + 1, 1, none⟩ = some (.int .i64 b.y) := by go_simp
            have m8_1_2 : w8.cell? ⟨w.heap.size + 1, 2, none⟩ = some (.bool b.far) := by go_simp
            have m8_2_0 : w8.cell? ⟨w.heap.size + 1 + 1, 0, none⟩ = some (.int .i64 c.x) := by go_simp
            have m8_2_1 : w8.cell? ⟨w.heap.size + 1 + 1, 1, none⟩ = some (.int .i64 c.y) := by go_simp
            have m8_2_2 : w8.cell? ⟨w.heap.size + 1 + 1, 2, none⟩ = some (.bool c.far) := by go_simp
            have m8_3_0 : w8.cell? ⟨w.heap.size + 1 + 1 + 1, 0, none⟩ = some (.int .i64 d.x) := by go_simp
            have m8_3_1 : w8.cell? ⟨w.heap.size + 1 + 1 + 1, 1, none⟩ = some (.int .i64 d.y) := by go_simp
            have m8_3_2 : w8.cell? ⟨w.heap.size + 1 + 1 + 1, 2, none⟩ = some (.bool d.far) := by go_simp
            have m8_4_0 : w8.cell? ⟨w1.heap.size, 0, none⟩ = some (.int .i64 X0) := by go_simp
            have m8_4_1 : w8.cell? ⟨w1.heap.size, 1, none⟩ = some (.int .i64 X1) := by go_simp
            have m8_5_0 : w8.cell? ⟨w1.heap.size + 1, 0, none⟩ = some (.int .i64 Y0) := by go_simp
            have m8_5_1 : w8.cell? ⟨w1.heap.size + 1, 1, none⟩ = some (.int .i64 Y1) := by go_simp
            have m8_6_0 : w8.cell? ⟨w3.heap.size, 0, none⟩ = some (.int .i64 X0) := by go_simp
            have m8_6_1 : w8.cell? ⟨w3.heap.size, 1, none⟩ = some (.int .i64 X1) := by go_simp
            clear m7_0_0 m7_0_1 m7_0_2 m7_1_0 m7_1_1 m7_1_2 m7_2_0 m7_2_1 m7_2_2 m7_3_0 m7_3_1 m7_3_2 m7_4_0 m7_4_1 m7_5_0 m7_5_1 m7_6_0 m7_6_1
            clear hc8
            have y8_0_0 : w8.frozen? ⟨w1.heap.size, 0, none⟩ = false := by go_simp
            have y8_0_1 : w8.frozen? ⟨w1.heap.size, 1, none⟩ = false := by go_simp
            have y8_1_0 : w8.frozen? ⟨w1.heap.size + 1, 0, none⟩ = false := by go_simp
            have y8_1_1 : w8.frozen? ⟨w1.heap.size + 1, 1, none⟩ = false := by go_simp
            have y8_2_0 : w8.frozen? ⟨w3.heap.size, 0, none⟩ = false := by go_simp
            have y8_2_1 : w8.frozen? ⟨w3.heap.size, 1, none⟩ = false := by go_simp
            clear z7 hB7 s7_0 s7_1 s7_2 s7_3 s7_4 s7_5 s7_6 y7_0_0 y7_0_1 y7_1_0 y7_1_1 y7_2_0 y7_2_1 hf8
            go_wp2_with fail
            go_meet
            exact ⟨rfl, (by repeat (first | with_reducible exact hB8 | with_reducible exact Below.refl _ _ | with_reducible refine below_set ?_ (by first | omega | (dsimp only; omega)) _ | with_reducible refine balloc ?_ _ | with_reducible refine Below.drew ?_ | with_reducible refine below_drewN ?_ _ | exact hB8 | exact Below.refl _ _ | refine balloc ?_ _ | refine Below.drew ?_ | refine below_drewN ?_ _ | refine below_set ?_ (by first | omega | (dsimp only; omega)) _)), (by first | with_reducible assumption | omega | (simp only [World.heap_drewN, World.size_alloc, World.size_setCell, World.size_drew]; omega)), (by first | with_reducible assumption | omega | (simp only [World.heap_drewN, World.size_alloc, World.size_setCell, World.size_drew]; omega)), (by first | with_reducible assumption | omega | (simp only [World.heap_drewN, World.size_alloc, World.size_setCell, World.size_drew]; omega)), (by first | with_reducible assumption | omega | (simp only [World.heap_drewN, World.size_alloc, World.size_setCell, World.size_drew]; omega)), (by first | with_reducible assumption | omega | (simp only [World.heap_drewN, World.size_alloc, World.size_setCell, World.size_drew]; omega)), (by first | with_reducible assumption | omega | (simp only [World.heap_drewN, World.size_alloc, World.size_setCell, World.size_drew]; omega)), (by first | with_reducible assumption | omega | (simp only [World.heap_drewN, World.size_alloc, World.size_setCell, World.size_drew]; omega)), (by first | with_reducible assumption | go_simp), (by first | with_reducible assumption | go_simp), (by first | with_reducible assumption | go_simp), (by first | with_reducible assumption | go_simp), (by first | with_reducible assumption | go_simp), (by first | with_reducible assumption | go_simp), (by first | with_reducible assumption | go_simp), (by first | with_reducible assumption | go_simp), (by first | with_reducible assumption | go_simp), (by first | with_reducible assumption | go_simp), (by first | with_reducible assumption | go_simp), (by first | with_reducible assumption | go_simp), (by first | with_reducible assumption | go_simp), (by first | with_reducible assumption | go_simp), (by first | with_reducible assumption | go_simp), (by first | with_reducible assumption | go_simp), (by first | with_reducible assumption | go_simp), (by first | with_reducible assumption | go_simp), (by first | with_reducible assumption | go_simp), (by first | with_reducible assumption | go_simp), (by first | with_reducible assumption | go_simp), (by first | with_reducible assumption | go_simp), (by first | with_reducible assumption | go_simp), (by first | with_reducible assumption | go_simp)⟩
        case rest =>
          obtain ⟨w8, hwq⟩ : ∃ x, x = wc := ⟨_, rfl⟩
          subst hwq
          obtain ⟨rfl, hB8, s8_0, s8_1, s8_2, s8_3, s8_4, s8_5, s8_6, m8_0_0, m8_0_1, m8_0_2, m8_1_0, m8_1_1, m8_1_2, m8_2_0, m8_2_1, m8_2_2, m8_3_0, m8_3_1, m8_3_2, m8_4_0, m8_4_1, m8_5_0, m8_5_1, m8_6_0, m8_6_1, y8_0_0, y8_0_1, y8_1_0, y8_1_1, y8_2_0, y8_2_1⟩ := hcut
          clear m7_0_0 m7_0_1 m7_0_2 m7_1_0 m7_1_1 m7_1_2 m7_2_0 m7_2_1 m7_2_2 m7_3_0 m7_3_1 m7_3_2 m7_4_0 m7_4_1 m7_5_0 m7_5_1 m7_6_0 m7_6_1
          clear z7 hB7 s7_0 s7_1 s7_2 s7_3 s7_4 s7_5 s7_6 y7_0_0 y7_0_1 y7_1_0 y7_1_1 y7_2_0 y7_2_1
          clear hq kS
          go_upto_region 14 with fail
          go_cut [85] from 78 to 84 (fun s85 wx => s85 = .bool B85 ∧ Below w.heap.size w wx ∧ w.heap.size < wx.heap.size ∧ w.heap.size + 1 < wx.heap.size ∧ w.heap.size + 1 + 1 < wx.heap.size ∧ w.heap.size + 1 + 1 + 1 < wx.heap.size ∧ w1.heap.size < wx.heap.size ∧ w1.heap.size + 1 < wx.heap.size ∧ w3.heap.size < wx.heap.size ∧ wx.cell? ⟨w3.heap.size, 0, none⟩ = some (.int .i64 X0) ∧ wx.cell? ⟨w3.heap.size, 1, none⟩ = some (.int .i64 X1) ∧ wx.frozen? ⟨w3.heap.size, 0, none⟩ = false ∧ wx.frozen? ⟨w3.heap.size, 1, none⟩ = false)
          case first =>
            rcases h4a.out with ⟨e1, e2⟩ | ⟨e1, e2, e3⟩ | ⟨e1, e2, e3⟩
            · subst e2
              clear h4a
              have g1 : decide ((12 : Int) < (n4 : Int)) = true := by rw [decide_eq_true_iff]; omega
              go_wp2_with fail
              go_meet
              exact ⟨rfl, (by repeat (first | with_reducible exact hB8 | with_reducible exact Below.refl _ _ | with_reducible refine below_set ?_ (by first | omega | (dsimp only; omega)) _ | with_reducible refine balloc ?_ _ | with_reducible refine Below.drew ?_ | with_reducible refine below_drewN ?_ _ | exact hB8 | exact Below.refl _ _ | refine balloc ?_ _ | refine Below.drew ?_ | refine below_drewN ?_ _ | refine below_set ?_ (by first | omega | (dsimp only; omega)) _)), (by first | with_reducible assumption | omega | (simp only [World.heap_drewN, World.size_alloc, World.size_setCell, World.size_drew]; omega)), (by first | with_reducible assumption | omega | (simp only [World.heap_drewN, World.size_alloc, World.size_setCell, World.size_drew]; omega)), (by first | with_reducible assumption | omega | (simp only [World.heap_drewN, World.size_alloc, World.size_setCell, World.size_drew]; omega)), (by first | with_reducible assumption | omega | (simp only [World.heap_drewN, World.size_alloc, World.size_setCell, World.size_drew]; omega)), (by first | with_reducible assumption | omega | (simp only [World.heap_drewN, World.size_alloc, World.size_setCell, World.size_drew]; omega)), (by first | with_reducible assumption | omega | (simp only [World.heap_drewN, World.size_alloc, World.size_setCell, World.size_drew]; omega)), (by first | with_reducible assumption | omega | (simp only [World.heap_drewN, World.size_alloc, World.size_setCell, World.size_drew]; omega)), (by first | with_reducible assumption | go_simp), (by first | with_reducible assumption | go_simp), (by first | with_reducible assumption | go_simp), (by first | with_reducible assumption | go_simp)⟩
            · subst e3
              clear h4a
              have g1 : decide ((12 : Int) < (n4 : Int)) = false := by rw [decide_eq_false_iff_not]; omega
              have g2 : decide ((12 : Int) < (n5 : Int)) = true := by rw [decide_eq_true_iff]; omega
              go_wp2_with fail
              go_meet
              exact ⟨rfl, (by repeat (first | with_reducible exact hB8 | with_reducible exact Below.refl _ _ | with_reducible refine below_set ?_ (by first | omega | (dsimp only; omega)) _ | with_reducible refine balloc ?_ _ | with_reducible refine Below.drew ?_ | with_reducible refine below_drewN ?_ _ | exact hB8 | exact Below.refl _ _ | refine balloc ?_ _ | refine Below.drew ?_ | refine below_drewN ?_ _ | refine below_set ?_ (by first | omega | (dsimp only; omega)) _)), (by first | with_reducible assumption | omega | (simp only [World.heap_drewN, World.size_alloc, World.size_setCell, World.size_drew]; omega)), (by first | with_reducible assumption | omega | (simp only [World.heap_drewN, World.size_alloc, World.size_setCell, World.size_drew]; omega)), (by first | with_reducible assumption | omega | (simp only [World.heap_drewN, World.size_alloc, World.size_setCell, World.size_drew]; omega)), (by first | with_reducible assumption | omega | (simp only [World.heap_drewN, World.size_alloc, World.size_setCell, World.size_drew]; omega)), (by first | with_reducible assumption | omega | (simp only [World.heap_drewN, World.size_alloc, World.size_setCell, World.size_drew]; omega)), (by first | with_reducible assumption | omega | (simp only [World.heap_drewN, World.size_alloc, World.size_setCell, World.size_drew]; omega)), (by first | with_reducible assumption | omega | (simp only [World.heap_drewN, World.size_alloc, World.size_setCell, World.size_drew]; omega)), (by first | with_reducible assumption | go_simp), (by first | with_reducible assumption | go_simp), (by first | with_reducible assumption | go_simp), (by first | with_reducible assumption | go_simp)⟩
            · subst e3
              clear h4a
              have g1 : decide ((12 : Int) < (n4 : Int)) = false := by rw [decide_eq_false_iff_not]; omega
              have g2 : decide ((12 : Int) < (n5 : Int)) = false := by rw [decide_eq_false_iff_not]; omega
              go_wp2_with fail
              go_meet
              exact ⟨rfl, (by repeat (first | with_reducible exact hB8 | with_reducible exact Below.refl _ _ | with_reducible refine below_set ?_ (by first | omega | (dsimp only; omega)) _ | with_reducible refine balloc ?_ _ | with_reducible refine Below.drew ?_ | with_reducible refine below_drewN ?_ _ | exact hB8 | exact Below.refl _ _ | refine balloc ?_ _ | refine Below.drew ?_ | refine below_drewN ?_ _ | refine below_set ?_ (by first | omega | (dsimp only; omega)) _)), (by first | with_reducible assumption | omega | (simp only [World.heap_drewN, World.size_alloc, World.size_setCell, World.size_drew]; omega)), (by first | with_reducible assumption | omega | (simp only [World.heap_drewN, World.size_alloc, World.size_setCell, World.size_drew]; omega)), (by first | with_reducible assumption | omega | (simp only [World.heap_drewN, World.size_alloc, World.size_setCell, World.size_drew]; omega)), (by first | with_reducible assumption | omega | (simp only [World.heap_drewN, World.size_alloc, World.size_setCell, World.size_drew]; omega)), (by first | with_reducible assumption | omega | (simp only [World.heap_drewN, World.size_alloc, World.size_setCell, World.size_drew]; omega)), (by first | with_reducible assumption | omega | (simp only [World.heap_drewN, World.size_alloc, World.size_setCell, World.size_drew]; omega)), (by first | with_reducible assumption | omega | (simp only [World.heap_drewN, World.size_alloc, World.size_setCell, World.size_drew]; omega)), (by first | with_reducible assumption | go_simp), (by first | with_reducible assumption | go_simp), (by first | with_reducible assumption | go_simp), (by first | with_reducible assumption | go_simp)⟩
          case rest =>
            obtain ⟨w9, hwq⟩ : ∃ x, x = wc := ⟨_, rfl⟩
            subst hwq
            obtain ⟨rfl, hB9, s9_0, s9_1, s9_2, s9_3, s9_4, s9_5, s9_6, m9_0_0, m9_0_1, y9_0_0, y9_0_1⟩ := hcut
            clear m8_0_0 m8_0_1 m8_0_2 m8_1_0 m8_1_1 m8_1_2 m8_2_0 m8_2_1 m8_2_2 m8_3_0 m8_3_1 m8_3_2 m8_4_0 m8_4_1 m8_5_0 m8_5_1 m8_6_0 m8_6_1
            clear hB8 s8_0 s8_1 s8_2 s8_3 s8_4 s8_5 s8_6 y8_0_0 y8_0_1 y8_1_0 y8_1_1 y8_2_0 y8_2_1
            clear h4a
            go_upto_if 85 with fail
            go_cut [13] from 85 to 90 (fun s13 wx => s13 = .int .i64 E3 ∧ Below w.heap.size w wx ∧ w.heap.size < wx.heap.size ∧ w.heap.size + 1 < wx.heap.size ∧ w.heap.size + 1 + 1 < wx.heap.size ∧ w.heap.size + 1 + 1 + 1 < wx.heap.size ∧ w1.heap.size < wx.heap.size ∧ w1.heap.size + 1 < wx.heap.size ∧ w3.heap.size < wx.heap.size ∧ wx.cell? ⟨w3.heap.size, 0, none⟩ = some (.int .i64 X0) ∧ wx.cell? ⟨w3.heap.size, 1, none⟩ = some (.int .i64 X1) ∧ wx.frozen? ⟨w3.heap.size, 0, none⟩ = false ∧ wx.frozen? ⟨w3.heap.size, 1, none⟩ = false)
            case first =>
              rcases h4.out with ⟨e1, e2⟩ | ⟨e1, e2, e3⟩ | ⟨e1, e2, e3⟩
              · subst e1 e2
                clear h4
                go_wp2_with fail
                go_meet
                exact ⟨rfl, (by repeat (first | with_reducible exact hB9 | with_reducible exact Below.refl _ _ | with_reducible refine below_set ?_ (by first | omega | (dsimp only; omega)) _ | with_reducible refine balloc ?_ _ | with_reducible refine Below.drew ?_ | with_reducible refine below_drewN ?_ _ | exact hB9 | exact Below.refl _ _ | refine balloc ?_ _ | refine Below.drew ?_ | refine below_drewN ?_ _ | refine below_set ?_ (by first | omega | (dsimp only; omega)) _)), (by first | with_reducible assumption | omega | (simp only [World.heap_drewN, World.size_alloc, World.size_setCell, World.size_drew]; omega)), (by first | with_reducible assumption | omega | (simp only [World.heap_drewN, World.size_alloc, World.size_setCell, World.size_drew]; omega)), (by first | with_reducible assumption | omega | (simp only [World.heap_drewN, World.size_alloc, World.size_setCell, World.size_drew]; omega)), (by first | with_reducible assumption | omega | (simp only [World.heap_drewN, World.size_alloc, World.size_setCell, World.size_drew]; omega)), (by first | with_reducible assumption | omega | (simp only [World.heap_drewN, World.size_alloc, World.size_setCell, World.size_drew]; omega)), (by first | with_reducible assumption | omega | (simp only [World.heap_drewN, World.size_alloc, World.size_setCell, World.size_drew]; omega)), (by first | with_reducible assumption | omega | (simp only [World.heap_drewN, World.size_alloc, World.size_setCell, World.size_drew]; omega)), (by first | with_reducible assumption | go_simp), (by first | with_reducible assumption | go_simp), (by first | with_reducible assumption | go_simp), (by first | with_reducible assumption | go_simp)⟩
              · subst e1 e3
                clear h4
                go_wp2_with fail
                go_meet
                exact ⟨rfl, (by repeat (first | with_reducible exact hB9 | with_reducible exact Below.refl _ _ | with_reducible refine below_set ?_ (by first | omega | (dsimp only; omega)) _ | with_reducible refine balloc ?_ _ | with_reducible refine Below.drew ?_ | with_reducible refine below_drewN ?_ _ | exact hB9 | exact Below.refl _ _ | refine balloc ?_ _ | refine Below.drew ?_ | refine below_drewN ?_ _ | refine below_set ?_ (by first | omega | (dsimp only; omega)) _)), (by first | with_reducible assumption | omega | (simp only [World.heap_drewN, World.size_alloc, World.size_setCell, World.size_drew]; omega)), (by first | with_reducible assumption | omega | (simp only [World.heap_drewN, World.size_alloc, World.size_setCell, World.size_drew]; omega)), (by first | with_reducible assumption | omega | (simp only [World.heap_drewN, World.size_alloc, World.size_setCell, World.size_drew]; omega)), (by first | with_reducible assumption | omega | (simp only [World.heap_drewN, World.size_alloc, World.size_setCell, World.size_drew]; omega)), (by first | with_reducible assumption | omega | (simp only [World.heap_drewN, World.size_alloc, World.size_setCell, World.size_drew]; omega)), (by first | with_reducible assumption | omega | (simp only [World.heap_drewN, World.size_alloc, World.size_setCell, World.size_drew]; omega)), (by first | with_reducible assumption | omega | (simp only [World.heap_drewN, World.size_alloc, World.size_setCell, World.size_drew]; omega)), (by first | with_reducible assumption | go_simp), (by first | with_reducible assumption | go_simp), (by first | with_reducible assumption | go_simp), (by first | with_reducible assumption | go_simp)⟩
              · subst e1 e3
                clear h4
                go_wp2_with fail
                go_meet
                exact ⟨rfl, (by repeat (first | with_reducible exact hB9 | with_reducible exact Below.refl _ _ | with_reducible refine below_set ?_ (by first | omega | (dsimp only; omega)) _ | with_reducible refine balloc ?_ _ | with_reducible refine Below.drew ?_ | with_reducible refine below_drewN ?_ _ | exact hB9 | exact Below.refl _ _ | refine balloc ?_ _ | refine Below.drew ?_ | refine below_drewN ?_ _ | refine below_set ?_ (by first | omega | (dsimp only; omega)) _)), (by first | with_reducible assumption | omega | (simp only [World.heap_drewN, World.size_alloc, World.size_setCell, World.size_drew]; omega)), (by first | with_reducible assumption | omega | (simp only [World.heap_drewN, World.size_alloc, World.size_setCell, World.size_drew]; omega)), (by first | with_reducible assumption | omega | (simp only [World.heap_drewN, World.size_alloc, World.size_setCell, World.size_drew]; omega)), (by first | with_reducible assumption | omega | (simp only [World.heap_drewN, World.size_alloc, World.size_setCell, World.size_drew]; omega)), (by first | with_reducible assumption | omega | (simp only [World.heap_drewN, World.size_alloc, World.size_setCell, World.size_drew]; omega)), (by first | with_reducible assumption | omega | (simp only [World.heap_drewN, World.size_alloc, World.size_setCell, World.size_drew]; omega)), (by first | with_reducible assumption | omega | (simp only [World.heap_drewN, World.size_alloc, World.size_setCell, World.size_drew]; omega)), (by first | with_reducible assumption | go_simp), (by first | with_reducible assumption | go_simp), (by first | with_reducible assumption | go_simp), (by first | with_reducible assumption | go_simp)⟩
            case rest =>
              obtain ⟨w10, hwq⟩ : ∃ x, x = wc := ⟨_, rfl⟩
              subst hwq
              obtain ⟨rfl, hB10, s10_0, s10_1, s10_2, s10_3, s10_4, s10_5, s10_6, m10_0_0, m10_0_1, y10_0_0, y10_0_1⟩ := hcut
              clear m9_0_0 m9_0_1
              clear hB9 s9_0 s9_1 s9_2 s9_3 s9_4 s9_5 s9_6 y9_0_0 y9_0_1
              clear h4
              go_upto_block 0 with fail
              go_cut [13, 22] from 92 to 123 (fun s13 s22 wx => s13 = .int .i64 E4 ∧ (∃ z0 z1 : Int, wx.cell? ⟨w10.heap.size, 0, none⟩ = some (.int .i64 z0) ∧ wx.cell? ⟨w10.heap.size, 1, none⟩ = some (.int .i64 z1) ∧ wx.frozen? ⟨w10.heap.size, 0, none⟩ = false ∧ wx.frozen? ⟨w10.heap.size, 1, none⟩ = false ∧ (E4 = 0 → z0 = F0 ∧ z1 = F1)) ∧ Below w.heap.size w wx ∧ w.heap.size < wx.heap.size ∧ w.heap.size + 1 < wx.heap.size ∧ w.heap.size + 1 + 1 < wx.heap.size ∧ w.heap.size + 1 + 1 + 1 < wx.heap.size ∧ w1.heap.size < wx.heap.size ∧ w1.heap.size + 1 < wx.heap.size ∧ w3.heap.size < wx.heap.size ∧ w10.heap.size < wx.heap.size ∧ wx.cell? ⟨w3.heap.size, 0, none⟩ = some (.int .i64 X0) ∧ wx.cell? ⟨w3.heap.size, 1, none⟩ = some (.int .i64 X1) ∧ wx.frozen? ⟨w3.heap.size, 0, none⟩ = false ∧ wx.frozen? ⟨w3.heap.size, 1, none⟩ = false)
              case first =>
                rcases h5.out with ⟨e1, e2⟩ | ⟨e1, L, M, f, g, k, e2, e3, hML, h12, hL, hM, hk, e4, e5, e6⟩
                · subst e2
                  clear h5 h6 kR
                  have hn0 : E4 = 0 → (1 : Int) = F0 ∧ (0 : Int) = F1 := fun h => by rw [h] at e1; exact absurd e1 (by decide)
                  replace hn0 := Lib.hid hn0
                  rcases Nat.eq_zero_or_pos n4 with hm0 | hm0
                  · have g1 : decide ((0 : Int) < (n4 : Int)) = false := by rw [decide_eq_false_iff_not]; omega
                    go_wp2_with fail
                    refine wp_loop_rounds 1 ?_
                    rw [rounds_succ]
                    go_wp2_with fail
                    go_meet
                    exact ⟨rfl, ⟨1, 0, by go_simp, by go_simp, by go_simp, by go_simp, hn0.out⟩, (by repeat (first | with_reducible exact hB10 | with_reducible exact Below.refl _ _ | with_reducible refine below_set ?_ (by first | omega | (dsimp only; omega)) _ | with_reducible refine balloc ?_ _ | with_reducible refine Below.drew ?_ | with_reducible refine below_drewN ?_ _ | exact hB10 | exact Below.refl _ _ | refine balloc ?_ _ | refine Below.drew ?_ | refine below_drewN ?_ _ | refine below_set ?_ (by first | omega | (dsimp only; omega)) _)), (by first | with_reducible assumption | omega | (simp only [World.heap_drewN, World.size_alloc, World.size_setCell, World.size_drew]; omega)), (by first | with_reducible assumption | omega | (simp only [World.heap_drewN, World.size_alloc, World.size_setCell, World.size_drew]; omega)), (by first | with_reducible assumption | omega | (simp only [World.heap_drewN, World.size_alloc, World.size_setCell, World.size_drew]; omega)), (by first | with_reducible assumption | omega | (simp only [World.heap_drewN, World.size_alloc, World.size_setCell, World.size_drew]; omega)), (by first | with_reducible assumption | omega | (simp only [World.heap_drewN, World.size_alloc, World.size_setCell, World.size_drew]; omega)), (by first | with_reducible assumption | omega | (simp only [World.heap_drewN, World.size_alloc, World.size_setCell, World.size_drew]; omega)), (by first | with_reducible assumption | omega | (simp only [World.heap_drewN, World.size_alloc, World.size_setCell, World.size_drew]; omega)), (by first | with_reducible assumption | omega | (simp only [World.heap_drewN, World.size_alloc, World.size_setCell, World.size_drew]; omega)), (by first | with_reducible assumption | go_simp), (by first | with_reducible assumption | go_simp), (by first | with_reducible assumption | go_simp), (by first | with_reducible assumption | go_simp)⟩
                  · have g1 : decide ((0 : Int) < (n4 : Int)) = true := by rw [decide_eq_true_iff]; omega
                    go_wp2_with fail
                    refine wp_loop_rounds 1 ?_
                    rw [rounds_succ]
                    go_wp2_with fail
                    go_meet
                    exact ⟨rfl, ⟨1, 0, by go_simp, by go_simp, by go_simp, by go_simp, hn0.out⟩, (by repeat (first | with_reducible exact hB10 | with_reducible exact Below.refl _ _ | with_reducible refine below_set ?_ (by first | omega | (dsimp only; omega)) _ | with_reducible refine balloc ?_ _ | with_reducible refine Below.drew ?_ | with_reducible refine below_drewN ?_ _ | exact hB10 | exact Below.refl _ _ | refine balloc ?_ _ | refine Below.drew ?_ | refine below_drewN ?_ _ | refine below_set ?_ (by first | omega | (dsimp only; omega)) _)), (by first | with_reducible assumption | omega | (simp only [World.heap_drewN, World.size_alloc, World.size_setCell, World.size_drew]; omega)), (by first | with_reducible assumption | omega | (simp only [World.heap_drewN, World.size_alloc, World.size_setCell, World.size_drew]; omega)), (by first | with_reducible assumption | omega | (simp only [World.heap_drewN, World.size_alloc, World.size_setCell, World.size_drew]; omega)), (by first | with_reducible assumption | omega | (simp only [World.heap_drewN, World.size_alloc, World.size_setCell, World.size_drew]; omega)), (by first | with_reducible assumption | omega | (simp only [World.heap_drewN, World.size_alloc, World.size_setCell, World.size_drew]; omega)), (by first | with_reducible assumption | omega | (simp only [World.heap_drewN, World.size_alloc, World.size_setCell, World.size_drew]; omega)), (by first | with_reducible assumption | omega | (simp only [World.heap_drewN, World.size_alloc, World.size_setCell, World.size_drew]; omega)), (by first | with_reducible assumption | omega | (simp only [World.heap_drewN, World.size_alloc, World.size_setCell, World.size_drew]; omega)), (by first | with_reducible assumption | go_simp), (by first | with_reducible assumption | go_simp), (by first | with_reducible assumption | go_simp), (by first | with_reducible assumption | go_simp)⟩
                · subst e1 e2 e3
                  replace e4 := Lib.hid e4
                  replace e5 := Lib.hid e5
                  replace e6 := Lib.hid e6
                  replace hL := Lib.hid hL
                  replace hM := Lib.hid hM
                  replace hML := Lib.hid hML
                  clear h5 h6 kR
                  have hT0 : TwAt (w10.alloc (.cells #[.int .i64 1, .int .i64 0] 40)) w10.heap.size (zp (prodN (fun k => f k * g k) 0)) := by
                    show TwAt _ _ (zp 0)
                    rw [zp_zero]
                    exact TwAt.one_of (by go_simp) (by go_simp) (by go_simp) (by go_simp) (by simp)
                  replace hT0 := Lib.hid hT0
                  go_wp2_with fail
                  go_loopw [13, 22] (fun e i wr => ∃ q : Nat, q ≤ L.length ∧ i = .int .i64 q ∧ ((q ≤ k ∧ e = .int .i64 0 ∧ TwAt wr w10.heap.size (zp (prodN (fun k => f k * g k) q))) ∨ (k < L.length ∧ q = k + 1 ∧ e = .int .i64 E4 ∧ ∃ z : Z, TwAt wr w10.heap.size z)) ∧ Below w10.heap.size w10 wr) (fun _ i _ => L.length - (intOf i).toNat)
                  case atStart => exact ⟨0, Nat.zero_le _, rfl, .inl ⟨Nat.zero_le _, rfl, hT0.out⟩, below_alloc _ _⟩
                  case round =>
                    clear hT0
                    obtain ⟨q, hq, rfl, hcase, hbr⟩ := hrel
                    have hBr : Below w.heap.size w wr := below_seq (by repeat (first | with_reducible exact hB10 | with_reducible exact Below.refl _ _ | with_reducible refine below_set ?_ (by first | omega | (dsimp only; omega)) _ | with_reducible refine balloc ?_ _ | with_reducible refine Below.drew ?_ | with_reducible refine below_drewN ?_ _ | exact hB10 | exact Below.refl _ _ | refine balloc ?_ _ | refine Below.drew ?_ | refine below_drewN ?_ _ | refine below_set ?_ (by first | omega | (dsimp only; omega)) _)) hbr
                    obtain ⟨hcr, hfr⟩ := bcell hbr
                    have zr := hbr.size
                    rcases hcase with ⟨hqk, rfl, hT⟩ | ⟨hkm, rfl, rfl, z, hT⟩
                    · replace hT := Lib.hid hT
                      by_cases hqm : q < L.length
                      · have hqM : q < M.length := by rw [hML.out]; exact hqm
                        obtain ⟨b4, o4, rfl, hs4⟩ := hL.out (by omega)
                        obtain ⟨b5, o5, rfl, hs5⟩ := hM.out (by omega)
                        have hcl := Lib.hid (fun (w' : World) (hb : Below w.heap.size w w') => (⟨(hs4.below hb).cx q hqm, (hs4.below hb).cy q hqm, (hs4.below hb).cf q hqm, (hs4.below hb).lt, (hs5.below hb).cx q hqM, (hs5.below hb).cy q hqM, (hs5.below hb).cf q hqM, (hs5.below hb).lt⟩ : w'.cell? ⟨b4, o4 + q * 3, none⟩ = some (.int .i64 L[q].x) ∧ w'.cell? ⟨b4, o4 + q * 3 + 1, none⟩ = some (.int .i64 L[q].y) ∧ w'.cell? ⟨b4, o4 + q * 3 + 2, none⟩ = some (.bool L[q].far) ∧ b4 < w'.heap.size ∧ w'.cell? ⟨b5, o5 + q * 3, none⟩ = some (.int .i64 M[q].x) ∧ w'.cell? ⟨b5, o5 + q * 3 + 1, none⟩ = some (.int .i64 M[q].y) ∧ w'.cell? ⟨b5, o5 + q * 3 + 2, none⟩ = some (.bool M[q].far) ∧ b5 < w'.heap.size))
                        have hgood := Lib.hid (e4.out q hqm hqM)
                        have hbadq : Hid (q = k → (∀ w : World, Calls Tryd.prog 18 #[spV L[q], spV M[q]] w fun e w' => e = .returned (.int .i64 E4) ∧ Below w.heap.size w w') ∧ (E4 == 0) = false) := Lib.hid (fun e => by subst e; exact e5.out hqm hqM)
                        clear hs4 hs5 e4 e5 e6
                        generalize L[q] = A at *
                        generalize M[q] = C at *
                        obtain ⟨l1, l2, l3, l4, l5, l6, l7, l8⟩ := hcl.out wr hBr
                        by_cases hqk2 : q < k
                        · obtain ⟨hTw, cA, cC⟩ := hgood.out hqk2
                          replace hTw := Lib.hid hTw
                          replace cA := Lib.hid cA
                          replace cC := Lib.hid cC
                          clear hgood hbadq
                          have hm := Lib.hid (prod_next f g q)
                          generalize hP : zp (f q * g q) = P at *
                          generalize hQ : zp (prodN (fun k => f k * g k) q) = Q at *
                          obtain ⟨V, hV⟩ : ∃ V, zp (prodN (fun k => f k * g k) (q + 1)) = V := ⟨_, rfl⟩
                          rw [hV] at hm
                          replace hP := Lib.hid hP
                          replace hV := Lib.hid hV
                          clear hQ
                          have cA' := Lib.hid (show Cnt A (f q) from cA.out)
                          go_wp2_with fail
                          refine wp_region_grow Tryd.mixed (by kernel_rfl) ?_
                          repeat (quiet_step ((go_at_call 18; exact grow_of (hTw.out _))))
                          refine wpQuiet_nil ?_
                          intro _ hw'
                          obtain ⟨x4, rfl⟩ := hw'
                          have hB4 := below_seq hBr x4.h
                          have hb4 := Lib.hid (below_seq hbr x4.h)
                          have hT4 := Lib.hid (hT.out.below x4.h)
                          clear l1 l2 l3 l4 l5 l6 l7 l8 hBr hbr hT hcr hfr zr
                          generalize hyw : x4.w = u4 at *
                          clear hyw x4
                          obtain ⟨l1, l2, l3, l4, l5, l6, l7, l8⟩ := hcl.out u4 hB4
                          obtain ⟨t0, t1, tf0, tf1, tl⟩ := hT4.out
                          go_wp2_with fail
                          refine wp_region_grow_tail 11 Tryd.mixed (by kernel_rfl) ?_
                          simp only [List.take_succ_cons, List.take_zero, List.drop_succ_cons, List.drop_zero]
                          repeat (quiet_step ((first | (go_at_call 19; exact grow_of (refPair_e A C (f q) (g q) P _ cA cC hP)) | (go_at_call 23; exact grow_of (refTwinMul_e Q P V _ hm)))))
                          refine wpQuiet_nil ?_
                          intro _ hw'
                          obtain ⟨x5, rfl⟩ := hw'
                          have hb5 := Lib.hid (below_seq hb4.out x5.h)
                          have hT5 := Lib.hid (hT4.out.below x5.h)
                          clear l1 l2 l3 l4 l5 l6 l7 l8 t0 t1 tf0 tf1 tl hB4 hb4 hT4
                          generalize hyw : x5.w = u5 at *
                          clear hyw x5
                          obtain ⟨t0, t1, tf0, tf1, tl⟩ := hT5.out
                          go_wp2
                          go_roundw
                          case rel => exact ⟨q + 1, by omega, by go_num, .inl ⟨by omega, rfl, by rw [hV.out]; exact hT5.out.set2 V⟩, set2_below hb5.out (Nat.le_refl _)⟩
                          case measure => simp [intOf]; omega
                        · obtain rfl : q = k := by omega
                          obtain ⟨hTw, he4⟩ := hbadq.out rfl
                          replace hTw := Lib.hid hTw
                          clear hgood hbadq
                          go_wp2_with fail
                          refine wp_region_grow Tryd.mixed (by kernel_rfl) ?_
                          repeat (quiet_step ((go_at_call 18; exact grow_of (hTw.out _))))
                          refine wpQuiet_nil ?_
                          intro _ hw'
                          obtain ⟨x4, rfl⟩ := hw'
                          have hb4 := Lib.hid (below_seq hbr x4.h)
                          have hT4 := Lib.hid (hT.out.below x4.h)
                          clear l1 l2 l3 l4 l5 l6 l7 l8 hBr hbr hT hcr hfr zr
                          generalize hyw : x4.w = u4 at *
                          clear hyw x4
                          go_wp2
                          go_roundw
                          case rel => exact ⟨q + 1, by omega, by go_num, .inr ⟨by omega, rfl, rfl, _, hT4.out⟩, hb4.out⟩
                          case measure => simp [intOf]; omega
                      · obtain ⟨he4, hf0, hf1⟩ := e6.out (by omega)
                        obtain rfl : q = L.length := by omega
                        subst he4
                        have g1 : decide ((L.length : Int) < (L.length : Int)) = false := by rw [decide_eq_false_iff_not]; omega
                        obtain ⟨t0, t1, tf0, tf1, tl⟩ := hT.out
                        rw [hf0] at t0
                        rw [hf1] at t1
                        clear e4 e5 e6 hf0 hf1 hT
                        go_wp2_with fail
                        go_meet
                        exact ⟨rfl, ⟨F0, F1, t0, t1, tf0, tf1, fun _ => ⟨rfl, rfl⟩⟩, (by repeat (first | with_reducible exact hBr | with_reducible exact Below.refl _ _ | with_reducible refine below_set ?_ (by first | omega | (dsimp only; omega)) _ | with_reducible refine balloc ?_ _ | with_reducible refine Below.drew ?_ | with_reducible refine below_drewN ?_ _ | exact hBr | exact Below.refl _ _ | refine balloc ?_ _ | refine Below.drew ?_ | refine below_drewN ?_ _ | refine below_set ?_ (by first | omega | (dsimp only; omega)) _)), (by first | with_reducible assumption | omega | (simp only [World.heap_drewN, World.size_alloc, World.size_setCell, World.size_drew]; omega)), (by first | with_reducible assumption | omega | (simp only [World.heap_drewN, World.size_alloc, World.size_setCell, World.size_drew]; omega)), (by first | with_reducible assumption | omega | (simp only [World.heap_drewN, World.size_alloc, World.size_setCell, World.size_drew]; omega)), (by first | with_reducible assumption | omega | (simp only [World.heap_drewN, World.size_alloc, World.size_setCell, World.size_drew]; omega)), (by first | with_reducible assumption | omega | (simp only [World.heap_drewN, World.size_alloc, World.size_setCell, World.size_drew]; omega)), (by first | with_reducible assumption | omega | (simp only [World.heap_drewN, World.size_alloc, World.size_setCell, World.size_drew]; omega)), (by first | with_reducible assumption | omega | (simp only [World.heap_drewN, World.size_alloc, World.size_setCell, World.size_drew]; omega)), (by first | with_reducible assumption | omega | (simp only [World.heap_drewN, World.size_alloc, World.size_setCell, World.size_drew]; omega)), (by first | with_reducible assumption | go_simp), (by first | with_reducible assumption | go_simp), (by first | with_reducible assumption | go_simp), (by first | with_reducible assumption | go_simp)⟩
                    · have hkM : k < M.length := by rw [hML.out]; exact hkm
                      obtain ⟨-, he4⟩ := e5.out hkm hkM
                      have hn0 : ∀ z0 z1 : Int, E4 = 0 → z0 = F0 ∧ z1 = F1 := fun z0 z1 h => by rw [h] at he4; exact absurd he4 (by decide)
                      replace hn0 := Lib.hid hn0
                      obtain ⟨t0, t1, tf0, tf1, tl⟩ := hT
                      clear e4 e5 e6
                      rcases Nat.lt_or_ge (k + 1) L.length with hl | hl
                      · have g2 : decide (((k + 1 : Nat) : Int) < (L.length : Int)) = true := by rw [decide_eq_true_iff]; omega
                        go_wp2_with fail
                        go_meet
                        exact ⟨rfl, ⟨_, _, t0, t1, tf0, tf1, hn0.out _ _⟩, (by repeat (first | with_reducible exact hBr | with_reducible exact Below.refl _ _ | with_reducible refine below_set ?_ (by first | omega | (dsimp only; omega)) _ | with_reducible refine balloc ?_ _ | with_reducible refine Below.drew ?_ | with_reducible refine below_drewN ?_ _ | exact hBr | exact Below.refl _ _ | refine balloc ?_ _ | refine Below.drew ?_ | refine below_drewN ?_ _ | refine below_set ?_ (by first | omega | (dsimp only; omega)) _)), (by first | with_reducible assumption | omega | (simp only [World.heap_drewN, World.size_alloc, World.size_setCell, World.size_drew]; omega)), (by first | with_reducible assumption | omega | (simp only [World.heap_drewN, World.size_alloc, World.size_setCell, World.size_drew]; omega)), (by first | with_reducible assumption | omega | (simp only [World.heap_drewN, World.size_alloc, World.size_setCell, World.size_drew]; omega)), (by first | with_reducible assumption | omega | (simp only [World.heap_drewN, World.size_alloc, World.size_setCell, World.size_drew]; omega)), (by first | with_reducible assumption | omega | (simp only [World.heap_drewN, World.size_alloc, World.size_setCell, World.size_drew]; omega)), (by first | with_reducible assumption | omega | (simp only [World.heap_drewN, World.size_alloc, World.size_setCell, World.size_drew]; omega)), (by first | with_reducible assumption | omega | (simp only [World.heap_drewN, World.size_alloc, World.size_setCell, World.size_drew]; omega)), (by first | with_reducible assumption | omega | (simp only [World.heap_drewN, World.size_alloc, World.size_setCell, World.size_drew]; omega)), (by first | with_reducible assumption | go_simp), (by first | with_reducible assumption | go_simp), (by first | with_reducible assumption | go_simp), (by first | with_reducible assumption | go_simp)⟩
                      · have g2 : decide (((k + 1 : Nat) : Int) < (L.length : Int)) = false := by rw [decide_eq_false_iff_not]; omega
                        go_wp2_with fail
                        go_meet
                        exact ⟨rfl, ⟨_, _, t0, t1, tf0, tf1, hn0.out _ _⟩, (by repeat (first | with_reducible exact hBr | with_reducible exact Below.refl _ _ | with_reducible refine below_set ?_ (by first | omega | (dsimp only; omega)) _ | with_reducible refine balloc ?_ _ | with_reducible refine Below.drew ?_ | with_reducible refine below_drewN ?_ _ | exact hBr | exact Below.refl _ _ | refine balloc ?_ _ | refine Below.drew ?_ | refine below_drewN ?_ _ | refine below_set ?_ (by first | omega | (dsimp only; omega)) _)), (by first | with_reducible assumption | omega | (simp only [World.heap_drewN, World.size_alloc, World.size_setCell, World.size_drew]; omega)), (by first | with_reducible assumption | omega | (simp only [World.heap_drewN, World.size_alloc, World.size_setCell, World.size_drew]; omega)), (by first | with_reducible assumption | omega | (simp only [World.heap_drewN, World.size_alloc, World.size_setCell, World.size_drew]; omega)), (by first | with_reducible assumption | omega | (simp only [World.heap_drewN, World.size_alloc, World.size_setCell, World.size_drew]; omega)), (by first | with_reducible assumption | omega | (simp only [World.heap_drewN, World.size_alloc, World.size_setCell, World.size_drew]; omega)), (by first | with_reducible assumption | omega | (simp only [World.heap_drewN, World.size_alloc, World.size_setCell, World.size_drew]; omega)), (by first | with_reducible assumption | omega | (simp only [World.heap_drewN, World.size_alloc, World.size_setCell, World.size_drew]; omega)), (by first | with_reducible assumption | omega | (simp only [World.heap_drewN, World.size_alloc, World.size_setCell, World.size_drew]; omega)), (by first | with_reducible assumption | go_simp), (by first | with_reducible assumption | go_simp), (by first | with_reducible assumption | go_simp), (by first | with_reducible assumption | go_simp)⟩
              case rest =>
                obtain ⟨w11, hwq⟩ : ∃ x, x = wc := ⟨_, rfl⟩
                subst hwq
                obtain ⟨rfl, ⟨z0, z1, q0', q1', qf0, qf1, hz⟩, hB11, s11_0, s11_1, s11_2, s11_3, s11_4, s11_5, s11_6, s11_7, m11_0_0, m11_0_1, y11_0_0, y11_0_1⟩ := hcut
                clear m10_0_0 m10_0_1
                clear hB10 y10_0_0 y10_0_1
                clear h5
                replace hz := Lib.hid hz
                go_upto_if 125 with fail
                go_cut [127] from 124 to 126 (fun s127 wx => (wx.cell? ⟨w10.heap.size, 0, none⟩ = some (.int .i64 F0) ∧ wx.cell? ⟨w10.heap.size, 1, none⟩ = some (.int .i64 F1)) ∧ Below w.heap.size w wx ∧ w.heap.size < wx.heap.size ∧ w.heap.size + 1 < wx.heap.size ∧ w.heap.size + 1 + 1 < wx.heap.size ∧ w.heap.size + 1 + 1 + 1 < wx.heap.size ∧ w1.heap.size < wx.heap.size ∧ w1.heap.size + 1 < wx.heap.size ∧ w3.heap.size < wx.heap.size ∧ w10.heap.size < wx.heap.size ∧ wx.cell? ⟨w3.heap.size, 0, none⟩ = some (.int .i64 X0) ∧ wx.cell? ⟨w3.heap.size, 1, none⟩ = some (.int .i64 X1) ∧ wx.frozen? ⟨w3.heap.size, 0, none⟩ = false ∧ wx.frozen? ⟨w3.heap.size, 1, none⟩ = false)
                case first =>
                  rcases h6.out with e1 | ⟨e1, e2, e3⟩
                  · obtain ⟨e2, e3⟩ := hz.out e1
                    subst e1 e2 e3
                    clear h6 hz
                    go_wp2_with fail
                    go_meet
                    exact ⟨⟨by go_simp, by go_simp⟩, (by repeat (first | with_reducible exact hB11 | with_reducible exact Below.refl _ _ | with_reducible refine below_set ?_ (by first | omega | (dsimp only; omega)) _ | with_reducible refine balloc ?_ _ | with_reducible refine Below.drew ?_ | with_reducible refine below_drewN ?_ _ | exact hB11 | exact Below.refl _ _ | refine balloc ?_ _ | refine Below.drew ?_ | refine below_drewN ?_ _ | refine below_set ?_ (by first | omega | (dsimp only; omega)) _)), (by first | with_reducible assumption | omega | (simp only [World.heap_drewN, World.size_alloc, World.size_setCell, World.size_drew]; omega)), (by first | with_reducible assumption | omega | (simp only [World.heap_drewN, World.size_alloc, World.size_setCell, World.size_drew]; omega)), (by first | with_reducible assumption | omega | (simp only [World.heap_drewN, World.size_alloc, World.size_setCell, World.size_drew]; omega)), (by first | with_reducible assumption | omega | (simp only [World.heap_drewN, World.size_alloc, World.size_setCell, World.size_drew]; omega)), (by first | with_reducible assumption | omega | (simp only [World.heap_drewN, World.size_alloc, World.size_setCell, World.size_drew]; omega)), (by first | with_reducible assumption | omega | (simp only [World.heap_drewN, World.size_alloc, World.size_setCell, World.size_drew]; omega)), (by first | with_reducible assumption | omega | (simp only [World.heap_drewN, World.size_alloc, World.size_setCell, World.size_drew]; omega)), (by first | with_reducible assumption | omega | (simp only [World.heap_drewN, World.size_alloc, World.size_setCell, World.size_drew]; omega)), (by first | with_reducible assumption | go_simp), (by first | with_reducible assumption | go_simp), (by first | with_reducible assumption | go_simp), (by first | with_reducible assumption | go_simp)⟩
                  · subst e2 e3
                    clear h6 hz
                    have e4 : (E4 != 0) = true := by rw [bne, e1]; rfl
                    go_wp2_with fail
                    go_meet
                    exact ⟨⟨by go_simp, by go_simp⟩, (by repeat (first | with_reducible exact hB11 | with_reducible exact Below.refl _ _ | with_reducible refine below_set ?_ (by first | omega | (dsimp only; omega)) _ | with_reducible refine balloc ?_ _ | with_reducible refine Below.drew ?_ | with_reducible refine below_drewN ?_ _ | exact hB11 | exact Below.refl _ _ | refine balloc ?_ _ | refine Below.drew ?_ | refine below_drewN ?_ _ | refine below_set ?_ (by first | omega | (dsimp only; omega)) _)), (by first | with_reducible assumption | omega | (simp only [World.heap_drewN, World.size_alloc, World.size_setCell, World.size_drew]; omega)), (by first | with_reducible assumption | omega | (simp only [World.heap_drewN, World.size_alloc, World.size_setCell, World.size_drew]; omega)), (by first | with_reducible assumption | omega | (simp only [World.heap_drewN, World.size_alloc, World.size_setCell, World.size_drew]; omega)), (by first | with_reducible assumption | omega | (simp only [World.heap_drewN, World.size_alloc, World.size_setCell, World.size_drew]; omega)), (by first | with_reducible assumption | omega | (simp only [World.heap_drewN, World.size_alloc, World.size_setCell, World.size_drew]; omega)), (by first | with_reducible assumption | omega | (simp only [World.heap_drewN, World.size_alloc, World.size_setCell, World.size_drew]; omega)), (by first | with_reducible assumption | omega | (simp only [World.heap_drewN, World.size_alloc, World.size_setCell, World.size_drew]; omega)), (by first | with_reducible assumption | omega | (simp only [World.heap_drewN, World.size_alloc, World.size_setCell, World.size_drew]; omega)), (by first | with_reducible assumption | go_simp), (by first | with_reducible assumption | go_simp), (by first | with_reducible assumption | go_simp), (by first | with_reducible assumption | go_simp)⟩
                case rest =>
                  obtain ⟨w12, hwq⟩ : ∃ x, x = wc := ⟨_, rfl⟩
                  subst hwq
                  obtain ⟨⟨p0', p1'⟩, hB12, s12_0, s12_1, s12_2, s12_3, s12_4, s12_5, s12_6, s12_7, m12_0_0, m12_0_1, y12_0_0, y12_0_1⟩ := hcut
                  clear m11_0_0 m11_0_1
                  clear hB11 s11_0 s11_1 s11_2 s11_3 s11_4 s11_5 s11_6 s11_7 y11_0_0 y11_0_1
                  clear h6 hz q0' q1' qf0 qf1
                  go_wp2_with fail
                  refine (kR.out _ (by repeat (first | with_reducible exact hB12 | with_reducible exact Below.refl _ _ | with_reducible refine below_set ?_ (by first | omega | (dsimp only; omega)) _ | with_reducible refine balloc ?_ _ | with_reducible refine Below.drew ?_ | with_reducible refine below_drewN ?_ _ | exact hB12 | exact Below.refl _ _ | refine balloc ?_ _ | refine Below.drew ?_ | refine below_drewN ?_ _ | refine below_set ?_ (by first | omega | (dsimp only; omega)) _))).mono ?_; rintro e w13 ⟨rfl, hb⟩
                  obtain ⟨hc13, hf13⟩ := bcell hb
                  have z13 := hb.size
                  try simp only [World.size_alloc, World.size_setCell, World.size_drew] at z13
                  have s13_0 : w.heap.size < w13.heap.size := by omega
                  have s13_1 : w.heap.size + 1 < w13.heap.size := by omega
                  have s13_2 : w.heap.size + 1 + 1 < w13.heap.size := by omega
                  have s13_3 : w.heap.size + 1 + 1 + 1 < w13.heap.size := by omega
                  have s13_4 : w1.heap.size < w13.heap.size := by omega
                  have s13_5 : w1.heap.size + 1 < w13.heap.size := by omega
                  have s13_6 : w3.heap.size < w13.heap.size := by omega
                  have s13_7 : w10.heap.size < w13.heap.size := by omega
                  have hB13 : Below w.heap.size w w13 := below_seq (by repeat (first | with_reducible exact hB12 | with_reducible exact Below.refl _ _ | with_reducible refine below_set ?_ (by first | omega | (dsimp only; omega)) _ | with_reducible refine balloc ?_ _ | with_reducible refine Below.drew ?_ | with_reducible refine below_drewN ?_ _ | exact hB12 | exact Below.refl _ _ | refine balloc ?_ _ | refine Below.drew ?_ | refine below_drewN ?_ _ | refine below_set ?_ (by first | omega | (dsimp only; omega)) _)) hb
                  clear hb
                  have m13_0_0 : w13.cell? ⟨w3.heap.size, 0, none⟩ = some (.int .i64 X0) := by go_simp
                  have m13_0_1 : w13.cell? ⟨w3.heap.size, 1, none⟩ = some (.int .i64 X1) := by go_simp
                  have m13_1_0 : w13.cell? ⟨w10.heap.size, 0, none⟩ = some (.int .i64 F0) := by go_simp
                  have m13_1_1 : w13.cell? ⟨w10.heap.size, 1, none⟩ = some (.int .i64 F1) := by go_simp
                  clear m12_0_0 m12_0_1
                  clear hc13
                  have y13_0_0 : w13.frozen? ⟨w3.heap.size, 0, none⟩ = false := by go_simp
                  have y13_0_1 : w13.frozen? ⟨w3.heap.size, 1, none⟩ = false := by go_simp
                  clear hB12 s12_0 s12_1 s12_2 s12_3 s12_4 s12_5 s12_6 s12_7 y12_0_0 y12_0_1 hf13
                  clear p0' p1'
                  go_wp2_with fail
                  refine (error_same (errV E4) E4 _ (hE.below (by repeat (first | with_reducible exact hB13 | with_reducible exact Below.refl _ _ | with_reducible refine below_set ?_ (by first | omega | (dsimp only; omega)) _ | with_reducible refine balloc ?_ _ | with_reducible refine Below.drew ?_ | with_reducible refine below_drewN ?_ _ | exact hB13 | exact Below.refl _ _ | refine balloc ?_ _ | refine Below.drew ?_ | refine below_drewN ?_ _ | refine below_set ?_ (by first | omega | (dsimp only; omega)) _))) (Lib.hid rfl)).mono ?_; rintro e w14 ⟨rfl, hb⟩
                  obtain ⟨hc14, hf14⟩ := bcell hb
                  have z14 := hb.size
                  try simp only [World.size_alloc, World.size_setCell, World.size_drew] at z14
                  have s14_0 : w.heap.size < w14.heap.size := by omega
                  have s14_1 : w.heap.size + 1 < w14.heap.size := by omega
                  have s14_2 : w.heap.size + 1 + 1 < w14.heap.size := by omega
                  have s14_3 : w.heap.size + 1 + 1 + 1 < w14.heap.size := by omega
                  have s14_4 : w1.heap.size < w14.heap.size := by omega
                  have s14_5 : w1.heap.size + 1 < w14.heap.size := by omega
                  have s14_6 : w3.heap.size < w14.heap.size := by omega
                  have s14_7 : w10.heap.size < w14.heap.size := by omega
                  have hB14 : Below w.heap.size w w14 := below_seq (by repeat (first | with_reducible exact hB13 | with_reducible exact Below.refl _ _ | with_reducible refine below_set ?_ (by first | omega | (dsimp only; omega)) _ | with_reducible refine balloc ?_ _ | with_reducible refine Below.drew ?_ | with_reducible refine below_drewN ?_ _ | exact hB13 | exact Below.refl _ _ | refine balloc ?_ _ | refine Below.drew ?_ | refine below_drewN ?_ _ | refine below_set ?_ (by first | omega | (dsimp only; omega)) _)) hb
                  clear hb
                  have m14_0_0 : w14.cell? ⟨w3.heap.size, 0, none⟩ = some (.int .i64 F0) := by go_simp
                  have m14_0_1 : w14.cell? ⟨w3.heap.size, 1, none⟩ = some (.int .i64 F1) := by go_simp
                  have m14_1_0 : w14.cell? ⟨w10.heap.size, 0, none⟩ = some (.int .i64 F0) := by go_simp
                  have m14_1_1 : w14.cell? ⟨w10.heap.size, 1, none⟩ = some (.int .i64 F1) := by go_simp
                  clear m13_0_0 m13_0_1 m13_1_0 m13_1_1
                  clear hc14
                  have y14_0_0 : w14.frozen? ⟨w3.heap.size, 0, none⟩ = false := by go_simp
                  have y14_0_1 : w14.frozen? ⟨w3.heap.size, 1, none⟩ = false := by go_simp
                  clear z13 hB13 s13_0 s13_1 s13_2 s13_3 s13_4 s13_5 s13_6 s13_7 y13_0_0 y13_0_1 hf14
                  go_wp2
                  go_ret
                  exact ⟨rfl, (by repeat (first | with_reducible exact hB14 | with_reducible exact Below.refl _ _ | with_reducible refine below_set ?_ (by first | omega | (dsimp only; omega)) _ | with_reducible refine balloc ?_ _ | with_reducible refine Below.drew ?_ | with_reducible refine below_drewN ?_ _ | exact hB14 | exact Below.refl _ _ | refine balloc ?_ _ | refine Below.drew ?_ | refine below_drewN ?_ _ | refine below_set ?_ (by first | omega | (dsimp only; omega)) _))⟩
end Go.Proofs.YtfnifdmnbccblaaDoor
namespace Go.Proofs.YtfnifdmnbccblaaDoor
open Go.RowKit
set_option maxRecDepth 100000
set_option linter.unusedVariables false
set_option linter.unusedSimpArgs false
theorem errV_np {E : Int} (h : E ≠ 0) : errV E = .iface 118 (.int .i64 E) := by rw [errV, if_neg h]
theorem below_far {w w1 : World} (h : FarAt w) (hb : Below w.heap.size w w1) : FarAt w1 := h.below hb
/-- The first place where it does not hold. -/
theorem first_np (p : Nat → Bool) : ∀ n : Nat, ∃ q, q ≤ n ∧ (∀ i, i < q → p i = true) ∧ (q < n → p q = false)
  | 0 => ⟨0, Nat.le_refl _, fun i h => absurd h (Nat.not_lt_zero _), fun h => absurd h (Nat.lt_irrefl _)⟩
  | n + 1 => by
    obtain ⟨q, h1, h2, h3⟩ := first_np p n
    by_cases hq : q < n
    · exact ⟨q, by omega, h2, fun _ => h3 hq⟩
    · obtain rfl : q = n := by omega
      cases hp : p q
      · exact ⟨q, by omega, h2, fun _ => hp⟩
      · refine ⟨q + 1, by omega, fun i hi => ?_, fun h => absurd h (Nat.lt_irrefl _)⟩
        by_cases e : i < q
        · exact h2 i e
        · obtain rfl : i = q := by omega
          exact hp
/-- Two lists that go together: the first fault, or none. -/
theorem two_lists (L M : List Sp) (hm : M.length = L.length) : ∃ (f g : Nat → Int) (k : Nat) (E : Int), k ≤ L.length ∧
    (∀ i (h : i < L.length) (h' : i < M.length), i < k → (∀ w : World, Calls Tryd.prog 18 #[spV L[i], spV M[i]] w fun e w' => e = .returned (.int .i64 0) ∧ Below w.heap.size w w') ∧ Cnt L[i] (f i) ∧ Cnt M[i] (g i)) ∧
    (∀ (h : k < L.length) (h' : k < M.length), E ≠ 0 ∧ (∀ w : World, Calls Tryd.prog 18 #[spV L[k], spV M[k]] w fun e w' => e = .returned (.int .i64 E) ∧ Below w.heap.size w w') ∧ (∀ w : World, FarAt w → Calls Tryd.prog 87 #[spV L[k], spV M[k]] w fun e w' => e = .returned (.iface 118 (.int .i64 E)) ∧ Below w.heap.size w w')) ∧ (k = L.length → E = 0) := by
  obtain ⟨Ef, hE⟩ := Classical.axiomOfChoice (fun i : Nat => two_is (L.getD i ⟨0, 0, false⟩) (M.getD i ⟨0, 0, false⟩))
  have hc : ∀ i : Nat, ∃ p : Int × Int, Ef i = 0 → Cnt (L.getD i ⟨0, 0, false⟩) p.1 ∧ Cnt (M.getD i ⟨0, 0, false⟩) p.2 := fun i => by
    rcases (hE i).2 with ⟨_, x, y, h⟩ | ⟨h, -⟩
    · exact ⟨(x, y), fun _ => h⟩
    · exact ⟨(0, 0), fun e => absurd e h⟩
  obtain ⟨pf, hp⟩ := Classical.axiomOfChoice hc
  have gd : ∀ (l : List Sp) i (h : i < l.length), l.getD i ⟨0, 0, false⟩ = l[i] := fun l i h => by rw [List.getD_eq_getElem?_getD, List.getElem?_eq_getElem h]; rfl
  obtain ⟨k, h1, h2, h3⟩ := first_np (fun i => Ef i == 0) L.length
  have hz : ∀ i, i < k → Ef i = 0 := fun i hi => by simpa using h2 i hi
  refine ⟨fun i => (pf i).1, fun i => (pf i).2, k, if k < L.length then Ef k else 0, h1, fun i hi hi' hik => ?_, fun hk hk' => ?_, fun e => if_neg (by omega)⟩
  · have e := hE i
    have c := hp i (hz i hik)
    rw [gd L i hi, gd M i hi'] at e c
    refine ⟨fun w => ?_, c⟩
    have := e.1 w
    rw [hz i hik] at this
    exact this
  · have e := hE k
    rw [gd L k hk, gd M k hk'] at e
    have hne : Ef k ≠ 0 := by simpa using h3 hk
    rw [if_pos hk]
    refine ⟨hne, e.1, ?_⟩
    rcases e.2 with ⟨h0, -⟩ | ⟨-, h⟩
    · exact absurd h0 hne
    · exact h
theorem pt_two (a b : Sp) (w : World) (hF : FarAt w) (hO : OneAt w) : ∃ E1 X0 X1 : Int, PtAt w 18 #[spV a, spV b] (.int .i64 E1) ∧ ((E1 = 0 ∧ PtAt w 19 #[spV a, spV b] (.agg #[.int .i64 X0, .int .i64 X1])) ∨ ((E1 == 0) = false ∧ X0 = 0 ∧ X1 = 0)) ∧
    PtAt w 20 #[spV a, spV b] (.tuple #[.agg #[.int .i64 X0, .int .i64 X1], errV E1]) ∧
    ((E1 = 0 ∧ ∃ i j, Cnt a i ∧ Cnt b j ∧ X0 = fz (zp (i * j)).re ∧ X1 = fz (zp (i * j)).im) ∨ (E1 ≠ 0 ∧ ∀ w : World, FarAt w → Calls Tryd.prog 87 #[spV a, spV b] w fun e w' => e = .returned (.iface 118 (.int .i64 E1)) ∧ Below w.heap.size w w')) := by
  obtain ⟨E, hT, hc⟩ := two_is a b
  rcases hc with ⟨rfl, i, j, ci, cj⟩ | ⟨h0, hR⟩
  · exact ⟨0, _, _, fun w1 _ => hT w1, .inl ⟨rfl, fun w1 _ => refPair_e a b i j _ w1 (Lib.hid ci) (Lib.hid cj) (Lib.hid rfl)⟩, fun w1 hb => pair_e a b i j _ w1 (hF.below hb) (hO.below hb) (Lib.hid ci) (Lib.hid cj) (Lib.hid rfl), .inl ⟨rfl, i, j, ci, cj, rfl, rfl⟩⟩
  · exact ⟨E, 0, 0, fun w1 _ => hT w1, .inr ⟨by simpa using h0, rfl, rfl⟩, fun w1 hb => by rw [errV_np h0]; exact pair_n a b E w1 (Lib.hid fun w2 hb2 => hR w2 ((hF.below hb).below hb2)), .inr ⟨h0, hR⟩⟩
theorem pairTells_law (a b c d : Sp) (v4 v5 : Value) (w : World) (o4 : SpotsV w v4) (o5 : SpotsV w v5) (hL : (FarAt w ∧ OneAt w) ∧ ErrAt w) :
    Calls Tryd.prog 4 #[spV a, spV b, spV c, spV d, v4, v5] w fun e w' => e = .returned (.bool true) ∧ Below w.heap.size w w' := by
  obtain ⟨⟨hF, hO⟩, hE⟩ := hL
  obtain ⟨L, ⟨a4, c4, rfl, i4⟩, m4⟩ := o4.sl
  obtain ⟨M, ⟨a5, c5, rfl, i5⟩, m5⟩ := o5.sl
  obtain ⟨E1, X0, X1, k1, h1, kP, hab⟩ := pt_two a b w hF hO
  obtain ⟨E2c, Y0c, Y1c, k2, h3c, -, hcd⟩ := pt_two c d w hF hO
  have mid : ∃ (E2 Y0 Y1 : Int) (BQ : Bool), ((E1 = 0 ∧ PtAt w 18 #[spV c, spV d] (.int .i64 E2)) ∨ ((E1 == 0) = false ∧ E2 = E1)) ∧ ((E2 = 0 ∧ PtAt w 19 #[spV c, spV d] (.agg #[.int .i64 Y0, .int .i64 Y1])) ∨ ((E2 == 0) = false ∧ Y0 = 0 ∧ Y1 = 0)) ∧
      ((E2 = 0 ∧ twB X0 X1 Y0 Y1 = BQ) ∨ ((E2 == 0) = false ∧ BQ = false)) ∧ PtAt w 22 #[spV a, spV b, spV c, spV d] (.tuple #[.bool BQ, errV E2]) := by
    rcases hab with ⟨rfl, i, j, ci, cj, rfl, rfl⟩ | ⟨h0, hR⟩
    · rcases hcd with ⟨rfl, k, l, ck, cl, rfl, rfl⟩ | ⟨h0, hR⟩
      · exact ⟨0, _, _, _, .inl ⟨rfl, k2⟩, h3c, .inl ⟨rfl, rfl⟩, fun w1 hb => same_b a b c d i j k l _ _ _ w1 (hF.below hb) (hO.below hb) (Lib.hid ci) (Lib.hid cj) (Lib.hid ck) (Lib.hid cl) (Lib.hid rfl) (Lib.hid rfl) (Lib.hid rfl)⟩
      · exact ⟨E2c, _, _, false, .inl ⟨rfl, k2⟩, h3c, .inr ⟨by simpa using h0, rfl⟩, fun w1 hb => by rw [errV_np h0]; exact same_n2 a b c d i j E2c w1 (hF.below hb) (Lib.hid ci) (Lib.hid cj) (Lib.hid hR)⟩
    · have hb0 : (E1 == 0) = false := by simpa using h0
      exact ⟨E1, 0, 0, false, .inr ⟨hb0, rfl⟩, .inr ⟨hb0, rfl, rfl⟩, .inr ⟨hb0, rfl⟩, fun w1 hb => by rw [errV_np h0]; exact same_n1 a b c d E1 w1 (hF.below hb) (Lib.hid hR)⟩
  obtain ⟨E2, Y0, Y1, BQ, h2, h3, hq, kS⟩ := mid
  have last : ∃ (B85 : Bool) (E3 E4 F0 F1 : Int), ((12 < L.length ∧ B85 = true) ∨ (L.length ≤ 12 ∧ 12 < M.length ∧ B85 = true) ∨ (L.length ≤ 12 ∧ M.length ≤ 12 ∧ B85 = false)) ∧ ((B85 = true ∧ E3 = 4) ∨ (B85 = false ∧ ((L.length : Int) != (M.length : Int)) = true ∧ E3 = 3) ∨ (B85 = false ∧ ((L.length : Int) != (M.length : Int)) = false ∧ E3 = 0)) ∧
      (((E3 == 0) = false ∧ E4 = E3) ∨ (E3 = 0 ∧ ∃ (L' M' : List Sp) (f g : Nat → Int) (k : Nat), L.length = L'.length ∧ M.length = L'.length ∧ M'.length = L'.length ∧ L'.length ≤ 12 ∧ (0 < L'.length → ∃ b o, a4 = some ⟨b, o, none⟩ ∧ SpotsAt w b o L') ∧ (0 < L'.length → ∃ b o, a5 = some ⟨b, o, none⟩ ∧ SpotsAt w b o M') ∧ k ≤ L'.length ∧
      (∀ i (h : i < L'.length) (h' : i < M'.length), i < k → (∀ w : World, Calls Tryd.prog 18 #[spV L'[i], spV M'[i]] w fun e w' => e = .returned (.int .i64 0) ∧ Below w.heap.size w w') ∧ Cnt L'[i] (f i) ∧ Cnt M'[i] (g i)) ∧ (∀ (h : k < L'.length) (h' : k < M'.length), (∀ w : World, Calls Tryd.prog 18 #[spV L'[k], spV M'[k]] w fun e w' => e = .returned (.int .i64 E4) ∧ Below w.heap.size w w') ∧ (E4 == 0) = false) ∧ (k = L'.length → E4 = 0 ∧ fz (zp (prodN (fun k => f k * g k) L'.length)).re = F0 ∧ fz (zp (prodN (fun k => f k * g k) L'.length)).im = F1))) ∧
      (E4 = 0 ∨ ((E4 == 0) = false ∧ F0 = 0 ∧ F1 = 0)) ∧ PtAt w 24 #[.slice a4 L.length c4, .slice a5 M.length c5] (.tuple #[.agg #[.int .i64 F0, .int .i64 F1], errV E4]) := by
    by_cases hl : 12 < L.length
    · exact ⟨true, 4, 4, 0, 0, .inl ⟨hl, rfl⟩, .inl ⟨rfl, rfl⟩, .inl ⟨rfl, rfl⟩, .inr ⟨rfl, rfl, rfl⟩, fun w1 _ => product_full1 _ _ a4 a5 c4 c5 w1 hl m4 m5⟩
    by_cases hm : 12 < M.length
    · exact ⟨true, 4, 4, 0, 0, .inr (.inl ⟨by omega, hm, rfl⟩), .inl ⟨rfl, rfl⟩, .inl ⟨rfl, rfl⟩, .inr ⟨rfl, rfl, rfl⟩, fun w1 _ => product_full2 _ _ a4 a5 c4 c5 w1 (by omega) hm m5⟩
    by_cases hn : L.length = M.length
    · have hn1 : ((L.length : Int) != (M.length : Int)) = false := by rw [hn]; simp
      obtain ⟨f, g, k, E, hk, hgood, hbad, hend⟩ := two_lists L M hn.symm
      have i4' : ∀ w1, Below w.heap.size w w1 → (0 < L.length → ∃ b o, a4 = some ⟨b, o, none⟩ ∧ SpotsAt w1 b o L) := fun w1 hb h => by obtain ⟨b, o, e, hs⟩ := i4 h; exact ⟨b, o, e, hs.below hb⟩
      have i5' : ∀ w1, Below w.heap.size w w1 → (0 < M.length → ∃ b o, a5 = some ⟨b, o, none⟩ ∧ SpotsAt w1 b o M) := fun w1 hb h => by obtain ⟨b, o, e, hs⟩ := i5 h; exact ⟨b, o, e, hs.below hb⟩
      by_cases hkl : k < L.length
      · have hb := hbad hkl (by omega)
        have hE0 : (E == 0) = false := by simpa using hb.1
        refine ⟨false, 0, E, 0, 0, .inr (.inr ⟨by omega, by omega, rfl⟩), .inr (.inr ⟨rfl, hn1, rfl⟩), .inr ⟨rfl, L, M, f, g, k, rfl, hn.symm, hn.symm, by omega, i4, fun h => i5 (by omega), hk, hgood, fun h h' => ⟨(hbad h h').2.1, hE0⟩, fun e => absurd hkl (by omega)⟩, .inr ⟨hE0, rfl, rfl⟩, fun w1 hb1 => ?_⟩
        rw [errV_np hb.1]
        exact product_core L M f g k E a4 a5 c4 c5 _ w1 (hF.below hb1) (hO.below hb1) (by omega) hn.symm (i4' w1 hb1) (i5' w1 hb1) (Lib.hid fun i h h' hik => (hgood i h h' hik).2) hk (Lib.hid fun h h' => (hbad h h').2.2) (Lib.hid fun _ => rfl) (Lib.hid fun e => absurd hkl (by omega))
      · have hke : k = L.length := by omega
        refine ⟨false, 0, 0, _, _, .inr (.inr ⟨by omega, by omega, rfl⟩), .inr (.inr ⟨rfl, hn1, rfl⟩), .inr ⟨rfl, L, M, f, g, k, rfl, hn.symm, hn.symm, by omega, i4, fun h => i5 (by omega), hk, hgood, fun h h' => absurd h hkl, fun _ => ⟨rfl, rfl, rfl⟩⟩, .inl rfl, fun w1 hb1 => ?_⟩
        exact product_core L M f g k E a4 a5 c4 c5 _ w1 (hF.below hb1) (hO.below hb1) (by omega) hn.symm (i4' w1 hb1) (i5' w1 hb1) (Lib.hid fun i h h' hik => (hgood i h h' hik).2) hk (Lib.hid fun h h' => absurd h hkl) (Lib.hid fun h => absurd h hkl) (Lib.hid fun _ => rfl)
    · exact ⟨false, 3, 3, 0, 0, .inr (.inr ⟨by omega, by omega, rfl⟩), .inr (.inl ⟨rfl, by rw [bne_iff_ne]; omega, rfl⟩), .inl ⟨rfl, rfl⟩, .inr ⟨rfl, rfl, rfl⟩, fun w1 _ => product_shape _ _ a4 a5 c4 c5 w1 (by omega) (by omega) hn⟩
  obtain ⟨B85, E3, E4, F0, F1, h4a, h4, h5, h6, kR⟩ := last
  exact pt_core a b c d a4 a5 L.length M.length c4 c5 w hE m4 m5 E1 E2 E3 E4 X0 X1 Y0 Y1 F0 F1 B85 BQ (Lib.hid k1) (Lib.hid h1) (Lib.hid kP) (Lib.hid h2) (Lib.hid h3) (Lib.hid hq) (Lib.hid kS) (Lib.hid h4a) (Lib.hid h4) (Lib.hid h5) (Lib.hid h6) (Lib.hid kR)
end Go.Proofs.YtfnifdmnbccblaaDoor
namespace Go.Proofs.YtfnifdmnbccblaaDoor
open Go.ChangeShapes Go.WideShapes Go.ChangeAt Go.WideMaps Go.WideElems Go.RowKit
set_option maxRecDepth 100000
abbrev farLaid : List (String × DataW Unit) := [("pairstone/curve.Far", Rows.laid_pairstone_curve_Far)]
theorem gFar : Tryd.prog.globalNamed "pairstone/curve.Far" = some 0 := by kernel_rfl
theorem tFar : (Tryd.prog.globals[0]?).map (·.type) = some 25 := by kernel_rfl
/-- The door's own heap meets the condition. -/
theorem farLaid_met (os : Os) (args : Array Value) : laidMetH Tryd.prog farLaid ((World.doorLaid Tryd.prog 400 os).forCall (fun _ _ => 0) ⟨#[], args, []⟩).memory :=
  laidMetH_of_parts3 (fuel := 8) (laidMet_of_run' 8 (by kernel_rfl) (by kernel_rfl)) (by kernel_rfl) (by kernel_rfl)
theorem lt_of_cell {w : World} {b o : Nat} {v : Value} (h : w.cell? ⟨b, o, none⟩ = some v) : b < w.heap.size := by
  rcases Nat.lt_or_ge b w.heap.size with h1 | h1
  · exact h1
  · simp [World.cell?, Array.getElem?_eq_none h1] at h
theorem farLaid_at {W : World} (h : laidMetH Tryd.prog farLaid W) : FarAt W := by
  rw [MakeChecks.laidMetH_plain _ _ _ (by kernel_rfl)] at h
  obtain ⟨ps, ⟨g0, t0, cs0, f0, p0, q0, hg0, ht0, hv0, hd0, _, _⟩, _, _⟩ := h
  obtain rfl := Option.some.inj (gFar.symm.trans hg0)
  obtain rfl := Option.some.inj (tFar.symm.trans ht0)
  obtain ⟨y0, y1, y2, n, hx, hlen, h0, h1, h2⟩ := Deep.trod_struct3 Tryd.underlying25 hd0
  simp only [Rows.laid_pairstone_curve_Far, Prod.mk.injEq, DataW.agg.injEq, List.cons.injEq, and_true] at hx
  obtain ⟨⟨e0, e1, e2⟩, _⟩ := hx
  obtain ⟨a, c0, rfl, _⟩ := DataW.trod_int Tryd.underlying3 h0
  obtain ⟨b, c1, rfl, _⟩ := DataW.trod_int Tryd.underlying3 h1
  obtain ⟨f, c2, rfl⟩ := DataW.trod_bool Tryd.underlying4 h2
  have k3 : Tryd.prog.cellsOf 25 = 3 := by kernel_rfl
  have ki : Tryd.prog.cellsOf 3 = 1 := by kernel_rfl
  have kb : Tryd.prog.cellsOf 4 = 1 := by kernel_rfl
  obtain ⟨l⟩ := cs0
  have h3 : l.length = 3 := by simpa using hlen.trans k3
  match l, h3 with
  | [x, y, z], _ =>
    simp [ki, kb] at c0 c1 c2
    subst c0 c1 c2
    have v0 := World.var?_cell hg0 hv0 0
    have v1 := World.var?_cell hg0 hv0 1
    have v2 := World.var?_cell hg0 hv0 2
    simp at e0 e1 e2 v0 v1 v2
    subst e0 e1 e2
    exact ⟨v0, v1, v2, lt_of_cell v0⟩
end Go.Proofs.YtfnifdmnbccblaaDoor
namespace Go.Proofs.YtfnifdmnbccblaaDoor
open Go.ChangeShapes Go.WideShapes Go.ChangeAt Go.WideMaps Go.WideElems Go.RowKit
set_option maxRecDepth 100000
theorem trod_struct2 {H : Type} {enc : TypeId × Value → H} {P : Program} {w : World} {base : Nat} {spare : Nat → Bool} {held : Bool} {t : TypeId} {f0 f1 : Field} {fuel : Nat} {cs : List Value} {x : DataW H × List MemPlace} (ht : P.underlying t = some (.struct #[f0, f1])) (h : DataW.trod enc P w base spare held fuel t cs = some x) :
    ∃ y0 y1 n, x = (.agg [y0.1, y1.1], y0.2 ++ y1.2) ∧ cs.length = P.cellsOf t ∧ DataW.trod enc P w base spare held n f0.type ((cs.drop f0.offset).take (P.cellsOf f0.type)) = some y0 ∧
      DataW.trod enc P w base spare held n f1.type ((cs.drop f1.offset).take (P.cellsOf f1.type)) = some y1 := by
  obtain ⟨xs, n, _, rfl, hl, hlen, hf⟩ := DataW.trod_struct ht h
  match xs, hlen with
  | [y0, y1], _ => exact ⟨y0, y1, n, by simp, hl, by simpa using hf 0 f0 rfl, by simpa using hf 1 f1 rfl⟩
abbrev oneLaid : List (String × DataW Unit) := [("pairstone/curve.Far", Rows.laid_pairstone_curve_Far), ("pairstone/pair.one", Rows.laid_pairstone_pair_one)]
theorem gOne : Tryd.prog.globalNamed "pairstone/pair.one" = some 1 := by kernel_rfl
theorem tOne : (Tryd.prog.globals[1]?).map (·.type) = some 40 := by kernel_rfl
theorem oneLaid_met (os : Os) (args : Array Value) : laidMetH Tryd.prog oneLaid ((World.doorLaid Tryd.prog 400 os).forCall (fun _ _ => 0) ⟨#[], args, []⟩).memory :=
  laidMetH_of_parts3 (fuel := 8) (laidMet_of_run' 8 (by kernel_rfl) (by kernel_rfl)) (by kernel_rfl) (by kernel_rfl)
theorem oneLaid_at {W : World} (h : laidMetH Tryd.prog oneLaid W) : FarAt W ∧ OneAt W := by
  rw [MakeChecks.laidMetH_plain _ _ _ (by kernel_rfl)] at h
  obtain ⟨ps, ⟨g0, t0, cs0, f0, p0, q0, hg0, ht0, hv0, hd0, ⟨g1, t1, cs1, f1, p1, q1, hg1, ht1, hv1, hd1, _, _⟩, _⟩, _, _⟩ := h
  refine ⟨?_, ?_⟩
  · obtain rfl := Option.some.inj (gFar.symm.trans hg0)
    obtain rfl := Option.some.inj (tFar.symm.trans ht0)
    obtain ⟨y0, y1, y2, n, hx, hlen, h0, h1, h2⟩ := Deep.trod_struct3 Tryd.underlying25 hd0
    simp only [Rows.laid_pairstone_curve_Far, Prod.mk.injEq, DataW.agg.injEq, List.cons.injEq, and_true] at hx
    obtain ⟨⟨e0, e1, e2⟩, _⟩ := hx
    obtain ⟨a, c0, rfl, _⟩ := DataW.trod_int Tryd.underlying3 h0
    obtain ⟨b, c1, rfl, _⟩ := DataW.trod_int Tryd.underlying3 h1
    obtain ⟨f, c2, rfl⟩ := DataW.trod_bool Tryd.underlying4 h2
    have k3 : Tryd.prog.cellsOf 25 = 3 := by kernel_rfl
    have ki : Tryd.prog.cellsOf 3 = 1 := by kernel_rfl
    have kb : Tryd.prog.cellsOf 4 = 1 := by kernel_rfl
    obtain ⟨l⟩ := cs0
    have h3 : l.length = 3 := by simpa using hlen.trans k3
    match l, h3 with
    | [x, y, z], _ =>
      simp [ki, kb] at c0 c1 c2
      subst c0 c1 c2
      have v0 := World.var?_cell hg0 hv0 0
      have v1 := World.var?_cell hg0 hv0 1
      have v2 := World.var?_cell hg0 hv0 2
      simp at e0 e1 e2 v0 v1 v2
      subst e0 e1 e2
      exact ⟨v0, v1, v2, lt_of_cell v0⟩
  · obtain rfl := Option.some.inj (gOne.symm.trans hg1)
    obtain rfl := Option.some.inj (tOne.symm.trans ht1)
    obtain ⟨y0, y1, n, hx, hlen, h0, h1⟩ := trod_struct2 Tryd.underlying40 hd1
    simp only [Rows.laid_pairstone_pair_one, Prod.mk.injEq, DataW.agg.injEq, List.cons.injEq, and_true] at hx
    obtain ⟨⟨e0, e1⟩, _⟩ := hx
    obtain ⟨a, c0, rfl, _⟩ := DataW.trod_int Tryd.underlying3 h0
    obtain ⟨b, c1, rfl, _⟩ := DataW.trod_int Tryd.underlying3 h1
    have k2 : Tryd.prog.cellsOf 40 = 2 := by kernel_rfl
    have ki : Tryd.prog.cellsOf 3 = 1 := by kernel_rfl
    obtain ⟨l⟩ := cs1
    have h3 : l.length = 2 := by simpa using hlen.trans k2
    match l, h3 with
    | [x, y], _ =>
      simp [ki] at c0 c1
      subst c0 c1
      have v0 := World.var?_cell hg1 hv1 0
      have v1 := World.var?_cell hg1 hv1 1
      simp at e0 e1 v0 v1
      subst e0 e1
      exact ⟨v0, v1, lt_of_cell v0⟩
end Go.Proofs.YtfnifdmnbccblaaDoor
namespace Go.Proofs.YtfnifdmnbccblaaDoor
open Go.ChangeShapes Go.WideShapes Go.ChangeAt Go.WideMaps Go.WideElems Go.RowKit
set_option maxRecDepth 100000
theorem gErr : Tryd.prog.globalNamed "errors.errorType" = some 2 := by kernel_rfl
theorem cutR : (Tryd.prog.cutTypes.find? (·.1 == "internal/reflectlite.rtype")).map (·.2) = some 183 := by kernel_rfl
theorem rowError : ((List.range Tryd.prog.types.size).filter fun t => Tryd.prog.rowNamed t [101, 114, 114, 111, 114]) = [27] := by kernel_rfl
/-- What the condition on the variable says of its cell. -/
theorem err_of_handles {l : List (String × DataW Unit)} {W : World} (h : handlesMet Tryd.prog l W) (hm : ("errors.errorType", Rows.laid_errors_errorType) ∈ l) : ErrAt W := by
  obtain ⟨name, u, ty, e1, e2, e3, e4, e5⟩ := h _ hm
  have en : name = [101, 114, 114, 111, 114] := (Option.some.inj e1).symm
  subst en
  obtain rfl := Option.some.inj (cutR.symm.trans e2)
  have hm : ty ∈ (List.range Tryd.prog.types.size).filter fun t => Tryd.prog.rowNamed t [101, 114, 114, 111, 114] := List.mem_filter.2 ⟨List.mem_range.2 e3, e4⟩
  rw [rowError] at hm
  obtain rfl := List.mem_singleton.1 hm
  have hh : typeHandle Tryd.prog 27 = .pointer (some ⟨3, 27, none⟩) := by kernel_rfl
  rw [hh] at e5
  have v := World.var?_cell gErr e5 0
  simp at v
  exact ⟨v, lt_of_cell v⟩
abbrev errLaid : List (String × DataW Unit) := [("errors.errorType", Rows.laid_errors_errorType)]
abbrev farErrLaid : List (String × DataW Unit) := [("pairstone/curve.Far", Rows.laid_pairstone_curve_Far), ("errors.errorType", Rows.laid_errors_errorType)]
theorem errLaid_met (os : Os) (args : Array Value) : laidMetH Tryd.prog errLaid ((World.doorLaid Tryd.prog 400 os).forCall (fun _ _ => 0) ⟨#[], args, []⟩).memory :=
  laidMetH_of_parts ⟨[], rfl, List.nodup_nil, fun _ _ h => by cases h⟩ (by kernel_rfl)
theorem farErrLaid_met (os : Os) (args : Array Value) : laidMetH Tryd.prog farErrLaid ((World.doorLaid Tryd.prog 400 os).forCall (fun _ _ => 0) ⟨#[], args, []⟩).memory :=
  laidMetH_of_parts (laidMet_of_run' 8 (by kernel_rfl) (by kernel_rfl)) (by kernel_rfl)
theorem errLaid_at {W : World} (h : laidMetH Tryd.prog errLaid W) : ErrAt W := by
  have h' : laidMet Tryd.prog [] W ∧ handlesMet Tryd.prog errLaid W := h
  exact err_of_handles h'.2 (by simp)
theorem farErrLaid_at {W : World} (h : laidMetH Tryd.prog farErrLaid W) : FarAt W ∧ ErrAt W := by
  have h' : laidMet Tryd.prog farLaid W ∧ handlesMet Tryd.prog errLaid W := h
  exact ⟨farLaid_at (by rw [MakeChecks.laidMetH_plain _ _ _ (by kernel_rfl)]; exact h'.1), err_of_handles h'.2 (by simp)⟩
end Go.Proofs.YtfnifdmnbccblaaDoor
namespace Go.Proofs.YtfnifdmnbccblaaDoor
open Go.ChangeShapes Go.WideShapes Go.ChangeAt Go.WideMaps Go.WideElems Go.RowKit
set_option maxRecDepth 100000
abbrev allLaid : List (String × DataW Unit) := [("pairstone/curve.Far", Rows.laid_pairstone_curve_Far), ("pairstone/pair.one", Rows.laid_pairstone_pair_one), ("errors.errorType", Rows.laid_errors_errorType)]
theorem allLaid_met (os : Os) (args : Array Value) : laidMetH Tryd.prog allLaid ((World.doorLaid Tryd.prog 400 os).forCall (fun _ _ => 0) ⟨#[], args, []⟩).memory :=
  laidMetH_of_parts (laidMet_of_run' 8 (by kernel_rfl) (by kernel_rfl)) (by kernel_rfl)
theorem allLaid_at {W : World} (h : laidMetH Tryd.prog allLaid W) : (FarAt W ∧ OneAt W) ∧ ErrAt W := by
  have h' : laidMet Tryd.prog oneLaid W ∧ handlesMet Tryd.prog errLaid W := h
  exact ⟨oneLaid_at (by rw [MakeChecks.laidMetH_plain _ _ _ (by kernel_rfl)]; exact h'.1), err_of_handles h'.2 (by simp)⟩
end Go.Proofs.YtfnifdmnbccblaaDoor
namespace Go.Proofs.YtfnifdmnbccblaaDoor
open Go.RowKit
set_option maxRecDepth 100000
theorem headL : ∃ l : List Char, Tryd.prog.initOrder = String.ofList l ∧ ((behindMainWord (wordsSigns l)).head? = some "cut".toList ∧
    (match wordsSigns l with
      | h :: s :: _ => if !isSumSigns s then none else if h == "harness".toList then some (true, s) else if h == "ownmain".toList then some (false, s) else none
      | _ => none) = some (true, "8bff7fe31cad154e1d9054f52751277758ee41cf373a73bb2e4a30f27c527906".toList)) := by
  refine ⟨?l, ?h1, ?h2, ?h3⟩
  case h1 =>
    unfold Tryd.prog
    first | rfl | (dsimp only; rfl)
  case h2 => kernel_rfl
  case h3 => kernel_rfl
theorem headCut : ∃ r, behindMainWord (wordsSigns Tryd.prog.initOrder.toList) = "cut".toList :: r := by
  obtain ⟨l, h, hw, -⟩ := headL
  rw [h, String.toList_ofList]
  cases e : behindMainWord (wordsSigns l) with
  | nil => rw [e] at hw; cases hw
  | cons c r => rw [e] at hw; exact ⟨r, by rw [Option.some.inj hw]⟩
theorem mainIsK : Tryd.prog.mainIs = some (true, "8bff7fe31cad154e1d9054f52751277758ee41cf373a73bb2e4a30f27c527906".toList) := by
  obtain ⟨l, h, -, hm⟩ := headL
  unfold Program.mainIs; rw [h, String.toList_ofList]; exact hm
theorem mayEnterK : Tryd.prog.mayEnter = true := by
  obtain ⟨r, h⟩ := headCut
  unfold Program.mayEnter; rw [h]; kernel_rfl
theorem headLiftsK : Tryd.prog.headLifts = [] := by
  obtain ⟨r, h⟩ := headCut
  unfold Program.headLifts; rw [h]; kernel_rfl
theorem liftsFinalK : Tryd.prog.liftsFinal = false := by
  obtain ⟨r, h⟩ := headCut
  unfold Program.liftsFinal; rw [h, headLiftsK]; kernel_rfl
theorem makeK : Tryd.prog.make = some .cut := by
  obtain ⟨r, h⟩ := headCut
  unfold Program.make; rw [h]; kernel_rfl
end Go.Proofs.YtfnifdmnbccblaaDoor
namespace Go.Proofs.YtfnifdmnbccblaaDoor.pairTells
open Go.ChangeShapes Go.WideShapes Go.ChangeAt Go.RowKit
set_option linter.unusedVariables false
theorem typesOk : ([25, 25, 25, 25, 34, 34].all fun t => Tryd.prog.readableRec t && decide (t < Tryd.prog.types.size)) = true := by kernel_rfl
set_option maxRecDepth 100000 in
theorem lifted (os : Os) (started : os.Started) (H : Type) (enc : TypeId × Value → H) :
    ReturnsInHanded {} Tryd.checked os 4 .any (fun w args => (Rows.pairTellsSpec.pre enc Tryd.prog Tryd.f4 [] false w args ∧ laidMetH Tryd.prog allLaid w) ∧ sizedMet enc Tryd.prog Tryd.f4 (OpenSpec.ofChange Rows.pairTellsSpec) false w args)
      (Rows.pairTellsSpec.post enc Tryd.prog Tryd.f4 false true false false) := by
  refine returnsInHanded_of_change_and (C := Tryd.checked) (X := fun w _ => laidMetH Tryd.prog allLaid w) (fun _ _ _ hh h => h.of_heap hh) Tryd.ownK started (by kernel_rfl) Tryd.func4
    (ChangeSpec.witness_shaped (enc := enc) (C := Tryd.checked) (os := os) (X := fun w _ => laidMetH Tryd.prog allLaid w) false (World.doorLaid Tryd.prog 400 os) #[.agg #[.int .i64 0, .int .i64 0, .bool false], .agg #[.int .i64 0, .int .i64 0, .bool false], .agg #[.int .i64 0, .int .i64 0, .bool false], .agg #[.int .i64 0, .int .i64 0, .bool false], .slice none 0 0, .slice none 0 0] 8 rfl (World.shaped_of_RefB (by kernel_rfl) (by kernel_rfl)) (by kernel_rfl) (by kernel_rfl) (by kernel_rfl) (allLaid_met os _)) ?_
  intro W base args ds gs before hval0 hW hcnd hsz0 hL hholds
  have hval : ∀ (j : Nat) t v, Tryd.f4.params[j]? = some t → args[j]? = some v → Value.okWide Tryd.prog W .any base t v := hval0
  have hW' := hW
  obtain ⟨p, q, hA0, hV, rfl, hfz, hnd⟩ := hW
  have hA : DataW.TrodAll enc Tryd.prog W 0 (fun _ => true) true Tryd.f4.params.toList args.toList ds p := hA0
  obtain ⟨rfl, rfl⟩ := trodVars_none hV
  simp only [List.append_nil] at hW'
  have hlt : ∀ x ∈ p, x.block < W.heap.size := fun x hx => hW'.lt x hx
  have hsz : (DataW.weightsEach Tryd.prog (Tryd.f4.params.toList ++ Rows.pairTellsSpec.plain.varTypes Tryd.prog) (ds ++ [])).all (· ≤ reachBytes) = true := hsz0
  rw [Tryd.params4] at hA hval hsz
  have hK := hA
  obtain ⟨v0, vs0, d0, ds0, p0, q0, hargs, rfl, rfl, h0, r0⟩ := trodAll_cons hA
  obtain ⟨v1, vs1, d1, ds1, p1, q1, rfl, rfl, rfl, h1, r1⟩ := trodAll_cons r0
  obtain ⟨v2, vs2, d2, ds2, p2, q2, rfl, rfl, rfl, h2, r2⟩ := trodAll_cons r1
  obtain ⟨v3, vs3, d3, ds3, p3, q3, rfl, rfl, rfl, h3, r3⟩ := trodAll_cons r2
  obtain ⟨v4, vs4, d4, ds4, p4, q4, rfl, rfl, rfl, h4, r4⟩ := trodAll_cons r3
  obtain ⟨v5, vs5, d5, ds5, p5, q5, rfl, rfl, rfl, h5, r5⟩ := trodAll_cons r4
  obtain ⟨rfl, rfl, rfl⟩ := trodAll_nil r5
  obtain rfl : args = #[v0, v1, v2, v3, v4, v5] := by cases args; simp_all
  obtain ⟨a0, b0, f0, rfl, w0, u0⟩ := open_spot Tryd.underlying25 (by kernel_rfl) (by kernel_rfl) Tryd.underlying3 Tryd.underlying3 Tryd.underlying4 (hval 0 25 v0 rfl rfl) h0
  obtain ⟨a1, b1, f1, rfl, w1, u1⟩ := open_spot Tryd.underlying25 (by kernel_rfl) (by kernel_rfl) Tryd.underlying3 Tryd.underlying3 Tryd.underlying4 (hval 1 25 v1 rfl rfl) h1
  obtain ⟨a2, b2, f2, rfl, w2, u2⟩ := open_spot Tryd.underlying25 (by kernel_rfl) (by kernel_rfl) Tryd.underlying3 Tryd.underlying3 Tryd.underlying4 (hval 2 25 v2 rfl rfl) h2
  obtain ⟨a3, b3, f3, rfl, w3, u3⟩ := open_spot Tryd.underlying25 (by kernel_rfl) (by kernel_rfl) Tryd.underlying3 Tryd.underlying3 Tryd.underlying4 (hval 3 25 v3 rfl rfl) h3
  have o4 := open_spots Tryd.underlying34 Tryd.underlying25 (by kernel_rfl) (by kernel_rfl) Tryd.underlying3 Tryd.underlying3 Tryd.underlying4 (hval 4 34 v4 rfl rfl) h4
  have o5 := open_spots Tryd.underlying34 Tryd.underlying25 (by kernel_rfl) (by kernel_rfl) Tryd.underlying3 Tryd.underlying3 Tryd.underlying4 (hval 5 34 v5 rfl rfl) h5
  clear hA0 hval0
  refine (pairTells_law ⟨a0, b0, f0⟩ ⟨a1, b1, f1⟩ ⟨a2, b2, f2⟩ ⟨a3, b3, f3⟩ v4 v5 W o4 o5 (allLaid_at hL)).mono fun e W' ⟨he, hg⟩ => ?_
  subst he
  exact ⟨_, rfl, post_of_below (pa := _) (pv := []) hW' (fun _ _ _ => (trodAll_cons_mk (shut_bool Tryd.underlying4 _) trodAll_mk0)) (fun sp hsp => trodAll_stays Tryd.laidOutK hg typesOk hK (fun x hx => ⟨hlt x hx, hsp x (by first | exact hx | (simp at hx) | simpa using hx)⟩)) (fun _ _ => rfl) (by simp) hg (ok_one (by kernel_rfl) rfl (okWide_bool_mk Tryd.underlying4 _))⟩

theorem over : Rows.pairTellsRow.holds Tryd.pinned (OpenSpec.ofChange Rows.pairTellsSpec) :=
  OpenClaim.holds_of_wide 4 Tryd.f4 rfl rfl rfl rfl rfl rfl rfl ⟨rfl, rfl, rfl, rfl, rfl⟩ rfl rfl rfl rfl rfl (by kernel_rfl) Tryd.func4 (by show joinedFacts Tryd.prog _ _ _ _ = true; unfold joinedFacts; rw [mayEnterK, liftsFinalK, makeK]; kernel_rfl)
    (of_decide_eq_true (by kernel_rfl)) (by unfold Func.isWrapper; first | (rw [if_pos (by decide +kernel)]; kernel_rfl) | (rw [if_neg (by decide +kernel)]; exact ⟨rfl, rfl⟩))
    (fun os started H enc _ => lifted os started H enc)
theorem card : Rows.PairTellsCardSaid :=
  Claim7.holds_tied_plain_at .later [] [.data, .data, .handle] true (true, "8bff7fe31cad154e1d9054f52751277758ee41cf373a73bb2e4a30f27c527906") true
    over (fun _ h => by cases h) (by kernel_rfl) (fun _ h => by cases h) pairTells_row_tie rfl ⟨rfl, rfl⟩ mainIsK rfl
    (fun f fn hf hfn => by
      obtain rfl : f = 4 := Option.some.inj ((show Tryd.prog.funcNamed "pairstone/stonelaw1.PairTells" = some 4 by kernel_rfl).symm.trans hf) |>.symm
      obtain rfl : fn = Tryd.f4 := (Option.some.inj (Tryd.func4.symm.trans hfn)).symm
      exact ⟨by kernel_rfl, fun j t ht => by
        rw [Tryd.params4] at ht
        have hm : t ∈ ([25, 25, 25, 25, 34, 34] : List TypeId) := by simpa using Array.mem_of_getElem? ht
        have hall : (([25, 25, 25, 25, 34, 34] : List TypeId).all fun u => !Tryd.prog.wantsStandIn u) = true := by kernel_rfl
        exact (show Tryd.prog.wantsStandIn t = false by simpa using List.all_eq_true.1 hall t hm)⟩)
    (by kernel_rfl)
#print axioms card
end Go.Proofs.YtfnifdmnbccblaaDoor.pairTells
