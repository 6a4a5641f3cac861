/- The statement of BatchTells: for every input the law returns true, and the arguments read as they did. (its listed variable reads as laid; the card ties it) -/
import Derived.Test.YtfnifdmnbccblaaDoorWb
import Derived.Test.YtfnifdmnbccblaaDoorWv
import Derived.LaidEql
import Derived.Stop.Asserts
import Derived.RowKitTokens
import Derived.Test.YtfnifdmnbccblaaDoorMBatchTells
import Derived.Laws.Entries
import Derived.Deep.DeepCutAuto
import Derived.Deep.CutBlock
import Derived.BigQuiet
import Derived.Test.YtfnifdmnbccblaaDoorRows
import Derived.ProofKit
import Derived.LaidMore
import Derived.OpenShut
import Derived.MakeChecks
import Derived.Deep.Strs
import Derived.LaidHandle
import Derived.Test.YtfnifdmnbccblaaDoorFr
import Derived.Test.YtfnifdmnbccblaaDoorFs
import Derived.SizedLaws
import Derived.Test.YtfnifdmnbccblaaDoorTie
import Derived.Test.YtfnifdmnbccblaaDoorCards
import Derived.SevenTiedAt
namespace Go.Proofs.YtfnifdmnbccblaaDoor
open Go.RowKit Go.Extern.Stop Go.Stop Go.Extern
set_option maxRecDepth 100000
set_option linter.unusedVariables false
set_option linter.unusedSimpArgs false
/-- The variable errors.errorType reads as laid. -/
def ErrAt (w : World) : Prop := w.cell? ⟨2, 0, none⟩ = some (.iface 183 (.agg #[.pointer (some ⟨3, 27, none⟩)])) ∧ 2 < w.heap.size
theorem ErrAt.below {w w' : World} (h : ErrAt w) (hb : Below w.heap.size w w') : ErrAt w' := ⟨((bcell hb).1 _ _ h.2).trans h.1, Nat.lt_of_lt_of_le h.2 hb.size⟩
/-! The model's entries for reflectlite, at this program's types. -/
theorem rl_value (t : Addr) (w : World) : (ReflectliteValue.unpack (.iface 161 (.pointer (some t)))).run Tryd.prog w
    = .ok (.agg #[.pointer (some ⟨3, 161, none⟩), .pointer (some ⟨w.heap.size, 0, none⟩), .int .u64 150]) (w.alloc (.cells #[.pointer (some t)] 161)) := by kernel_rfl
theorem rl_type (a : Addr) (w : World) : (ReflectliteValue.methodAny (ReflectliteValue.valueError "reflectlite.Value.Type" 0) (fun t _ _ _ => ReflectliteType.toType t) #[.agg #[.pointer (some ⟨3, 161, none⟩), .pointer (some a), .int .u64 150]]).run Tryd.prog w
    = .ok (.iface 183 (.agg #[.pointer (some ⟨3, 161, none⟩)])) w := by kernel_rfl
theorem rl_kindm (h : Value) (w : World) : (Go.method 326 183 (.agg #[h]) "Kind").run Tryd.prog w = .ok (166, h) w := by kernel_rfl
theorem rl_kind (w : World) : ((ReflectliteType.abiMethod fun t => Functor.map (fun a : Nat => Value.int IntKind.u8 (a : Int)) (Rtype.kind t)) #[.pointer (some ⟨3, 161, none⟩)]).run Tryd.prog w = .ok (.int .u8 22) w := by kernel_rfl
theorem rl_kinde (w : World) : ((ReflectliteType.abiMethod fun t => Functor.map (fun a : Nat => Value.int IntKind.u8 (a : Int)) (Rtype.kind t)) #[.pointer (some ⟨3, 118, none⟩)]).run Tryd.prog w = .ok (.int .u8 2) w := by kernel_rfl
theorem rl_m (z : Sem Value) (f : TypeId → Addr → Nat → Nat → Sem Value) (v : Value) :
    ReflectliteValue.method z f #[v] = (do match ← ReflectliteValue.parts v with | none => z | some (t, a, fl) => f t a fl (fl % 32)) := rfl
theorem rl_parts (a : Addr) (w : World) : (ReflectliteValue.parts (.agg #[.pointer (some ⟨3, 161, none⟩), .pointer (some a), .int .u64 150])).run Tryd.prog w = .ok (some (161, a, 150)) w := by kernel_rfl
theorem rl_nil (a p : Addr) (W : World) (ha : W.cell? a = some (.pointer (some p))) :
    (ReflectliteValue.method (ReflectliteValue.valueError "reflectlite.Value.IsNil" 0) ReflectliteValue.isNil #[.agg #[.pointer (some ⟨3, 161, none⟩), .pointer (some a), .int .u64 150]]).run Tryd.prog W = .ok (.bool false) W := by
  rw [rl_m]
  simp only [Sem.run_bind, rl_parts, Result.andThen]
  simp [ReflectliteValue.isNil, loadVar, isAgg, underlying, Tryd.underlying161, ha, Result.andThen]
theorem rl_elemm (h : Value) (w : World) : (Go.method 326 183 (.agg #[h]) "Elem").run Tryd.prog w = .ok (177, .agg #[h]) w := by kernel_rfl
theorem rl_implm (h : Value) (w : World) : (Go.method 326 183 (.agg #[h]) "Implements").run Tryd.prog w = .ok (178, .agg #[h]) w := by kernel_rfl
theorem rl_assm (h : Value) (w : World) : (Go.method 326 183 (.agg #[h]) "AssignableTo").run Tryd.prog w = .ok (175, .agg #[h]) w := by kernel_rfl
theorem rl_elem (w : World) : (ReflectliteType.method ReflectliteType.elem #[.agg #[.pointer (some ⟨3, 161, none⟩)]]).run Tryd.prog w = .ok (.iface 183 (.agg #[.pointer (some ⟨3, 118, none⟩)])) w := by kernel_rfl
theorem rl_impl (w : World) : (ReflectliteType.relation "Implements" ReflectliteType.implements_ #[.agg #[.pointer (some ⟨3, 118, none⟩)], .iface 183 (.agg #[.pointer (some ⟨3, 27, none⟩)])]).run Tryd.prog w = .ok (.bool true) w := by kernel_rfl
theorem rl_typeof (v : Value) (w : World) : (ReflectliteType.typeOf #[.iface 118 v]).run Tryd.prog w = .ok (.iface 183 (.agg #[.pointer (some ⟨3, 118, none⟩)])) w := by kernel_rfl
theorem rl_ass (w : World) : (ReflectliteType.relation "AssignableTo" ReflectliteType.assignableTo #[.agg #[.pointer (some ⟨3, 118, none⟩)], .iface 183 (.agg #[.pointer (some ⟨3, 118, none⟩)])]).run Tryd.prog w = .ok (.bool true) w := by kernel_rfl
theorem rl_valuee (k : Int) (w : World) : (ReflectliteValue.unpack (.iface 118 (.int .i64 k))).run Tryd.prog w
    = .ok (.agg #[.pointer (some ⟨3, 118, none⟩), .pointer (some ⟨w.heap.size, 0, none⟩), .int .u64 130]) (w.alloc (.cells #[.int .i64 k] 118)) := by kernel_rfl
theorem rl_elemof (w : World) : (Rtype.elem? 161).run Tryd.prog w = .ok (some 118) w := by kernel_rfl
theorem rl_mk (p : Addr) (w : World) : (ReflectliteValue.mk 118 p ReflectliteValue.flagAddr).run Tryd.prog w = .ok (.agg #[.pointer (some ⟨3, 118, none⟩), .pointer (some p), .int .u64 386]) w := by kernel_rfl
theorem rl_elemv (a p : Addr) (W : World) (ha : W.cell? a = some (.pointer (some p))) :
    (ReflectliteValue.method (ReflectliteValue.valueError "reflectlite.Value.Elem" 0) ReflectliteValue.elem #[.agg #[.pointer (some ⟨3, 161, none⟩), .pointer (some a), .int .u64 150]]).run Tryd.prog W
      = .ok (.agg #[.pointer (some ⟨3, 118, none⟩), .pointer (some p), .int .u64 386]) W := by
  rw [rl_m]
  simp only [Sem.run_bind, rl_parts, Result.andThen]
  simp [ReflectliteValue.elem, loadVar, isAgg, underlying, Tryd.underlying161, ha, Result.andThen, rl_elemof, rl_mk]
theorem rl_s (v x : Value) : ReflectliteValue.set #[v, x] = (do
    let (some (dst, a, fl), some (src, b, _)) := (← ReflectliteValue.parts v, ← ReflectliteValue.parts x)
      | unsupported (.noEntry "extern/(internal/reflectlite.Value).Set.zeroValue")
    if fl / ReflectliteValue.flagAddr % 2 == 0 then unsupported (.noEntry "extern/(internal/reflectlite.Value).Set.unaddressable")
    let val ← loadVar src b
    if ← Rtype.directlyAssignable dst src then storeVar dst a val
    else if ← Rtype.implements dst src then
      if (← Rtype.kind src) == 20 then
        match val with
        | .nilIface => unsupported (.noEntry "extern/reflectlite: a nil value of one interface type handed on as a value of another")
        | _ => storeVar dst a val
      else storeVar dst a (.iface src val)
    else panicString ("reflectlite.Set: value of type " ++ (← Rtype.spelt src) ++ " is not assignable to type " ++ (← Rtype.spelt dst))
    pure (.tuple #[])) := rfl
theorem rl_partsa (a : Addr) (w : World) : (ReflectliteValue.parts (.agg #[.pointer (some ⟨3, 118, none⟩), .pointer (some a), .int .u64 386])).run Tryd.prog w = .ok (some (118, a, 386)) w := by kernel_rfl
theorem rl_partse (a : Addr) (w : World) : (ReflectliteValue.parts (.agg #[.pointer (some ⟨3, 118, none⟩), .pointer (some a), .int .u64 130])).run Tryd.prog w = .ok (some (118, a, 130)) w := by kernel_rfl
theorem rl_direct (w : World) : (Rtype.directlyAssignable 118 118).run Tryd.prog w = .ok true w := by kernel_rfl
theorem rl_set (ta b : Addr) (k : Int) (old : Value) (W : World) (hb : W.cell? b = some (.int .i64 k)) (ht : W.cell? ta = some old) (hf : W.frozen? ta = false) :
    (ReflectliteValue.set #[.agg #[.pointer (some ⟨3, 118, none⟩), .pointer (some ta), .int .u64 386], .agg #[.pointer (some ⟨3, 118, none⟩), .pointer (some b), .int .u64 130]]).run Tryd.prog W
      = .ok (.tuple #[]) (W.setCell ta (.int .i64 k)) := by
  rw [rl_s]
  simp only [Sem.run_bind, rl_partsa, rl_partse, Result.andThen]
  simp [ReflectliteValue.flagAddr, loadVar, isAgg, underlying, Tryd.underlying118, hb, Result.andThen, rl_direct, storeVar, Value.cells, storeCells, Addr.add]
  rw [run_store Tryd.prog W ta _ _ (by rfl)]
  simp [ht, hf]
set_option maxHeartbeats 4000000 in
theorem as_hit (k : Int) (t : Addr) (old : Value) (w : World) (hg : w.cell? ⟨2, 0, none⟩ = some (.iface 183 (.agg #[.pointer (some ⟨3, 27, none⟩)]))) (hgl : 2 < w.heap.size) (ht0 : w.cell? t = some old) (hf0 : w.frozen? t = false) :
    Calls Tryd.prog 134 #[.iface 118 (.int .i64 k), .iface 161 (.pointer (some t))] w fun ev w' => ev = .returned (.bool true) ∧ w' = ((((w.alloc (.cells #[.pointer (some t)] 161)).alloc (.cells #[.pointer (some ⟨3, 161, none⟩), .pointer (some ⟨w.heap.size, 0, none⟩), .int .u64 150] 172)).alloc (.cells #[.pointer (some ⟨3, 161, none⟩), .pointer (some ⟨w.heap.size, 0, none⟩), .int .u64 150] 172)).alloc (.cells #[.int .i64 k] 118)).setCell t (.int .i64 k) := by
  have h6 := @run_callFunc_extern Tryd.prog 144 _ (fun args => ReflectliteValue.unpack (args.getD 0 (.tuple #[]))) Tryd.func144 (by kernel_rfl) (by kernel_rfl) (by kernel_rfl) (by kernel_rfl)
  have h7 := @run_callFunc_extern Tryd.prog 145 _ (ReflectliteValue.methodAny (ReflectliteValue.valueError "reflectlite.Value.Type" 0) (fun t _ _ _ => ReflectliteType.toType t)) Tryd.func145 (by kernel_rfl) (by kernel_rfl) (by kernel_rfl) (by kernel_rfl)
  have h8 := @run_callFunc_extern Tryd.prog 146 _ (ReflectliteValue.method (ReflectliteValue.valueError "reflectlite.Value.IsNil" 0) ReflectliteValue.isNil) Tryd.func146 (by kernel_rfl) (by kernel_rfl) (by kernel_rfl) (by kernel_rfl)
  have h27 := @run_callFunc_extern Tryd.prog 166 _ (ReflectliteType.abiMethod fun t => do pure (.int .u8 (← Rtype.kind t))) Tryd.func166 (by kernel_rfl) (by kernel_rfl) (by kernel_rfl) (by kernel_rfl)
  have h37 := @run_callFunc_extern Tryd.prog 177 _ (ReflectliteType.method ReflectliteType.elem) Tryd.func177 (by kernel_rfl) (by kernel_rfl) (by kernel_rfl) (by kernel_rfl)
  have h38 := @run_callFunc_extern Tryd.prog 178 _ (ReflectliteType.relation "Implements" ReflectliteType.implements_) Tryd.func178 (by kernel_rfl) (by kernel_rfl) (by kernel_rfl) (by kernel_rfl)
  have h10 := @run_callFunc_extern Tryd.prog 149 _ (ReflectliteType.typeOf) Tryd.func149 (by kernel_rfl) (by kernel_rfl) (by kernel_rfl) (by kernel_rfl)
  have h35 := @run_callFunc_extern Tryd.prog 175 _ (ReflectliteType.relation "AssignableTo" ReflectliteType.assignableTo) Tryd.func175 (by kernel_rfl) (by kernel_rfl) (by kernel_rfl) (by kernel_rfl)
  have h11 := @run_callFunc_extern Tryd.prog 150 _ (ReflectliteValue.method (ReflectliteValue.valueError "reflectlite.Value.Elem" 0) ReflectliteValue.elem) Tryd.func150 (by kernel_rfl) (by kernel_rfl) (by kernel_rfl) (by kernel_rfl)
  have h12 := @run_callFunc_extern Tryd.prog 151 _ (ReflectliteValue.set) Tryd.func151 (by kernel_rfl) (by kernel_rfl) (by kernel_rfl) (by kernel_rfl)
  have tO := rl_typeof
  have mA := rl_assm
  have a25 := rl_ass
  have v25 := rl_valuee
  have f6 := rl_value
  have f7 := rl_type
  have mK := rl_kindm
  have mE := rl_elemm
  have mI := rl_implm
  have k27 := rl_kind
  have k25 := rl_kinde
  have e27 := rl_elem
  have i25 := rl_impl
  have n8 := rl_nil ⟨w.heap.size, 0, none⟩ t ((w.alloc (.cells #[.pointer (some t)] 161)).alloc (.cells #[.pointer (some ⟨3, 161, none⟩), .pointer (some ⟨w.heap.size, 0, none⟩), .int .u64 150] 172)) (by simp)
  have hg2 : ((w.alloc (.cells #[.pointer (some t)] 161)).alloc (.cells #[.pointer (some ⟨3, 161, none⟩), .pointer (some ⟨w.heap.size, 0, none⟩), .int .u64 150] 172)).cell? ⟨2, 0, none⟩ = some (.iface 183 (.agg #[.pointer (some ⟨3, 27, none⟩)])) := by
    rw [World.cell?_alloc_lt _ _ ⟨2, 0, none⟩ (by simp; omega), World.cell?_alloc_lt _ _ ⟨2, 0, none⟩ hgl]; exact hg
  have htl : t.block < w.heap.size := by
    rcases Nat.lt_or_ge t.block w.heap.size with h | h
    · exact h
    · simp [World.cell?, Array.getElem?_eq_none h] at ht0
  have el := rl_elemv ⟨w.heap.size, 0, none⟩ t (((w.alloc (.cells #[.pointer (some t)] 161)).alloc (.cells #[.pointer (some ⟨3, 161, none⟩), .pointer (some ⟨w.heap.size, 0, none⟩), .int .u64 150] 172)).alloc (.cells #[.pointer (some ⟨3, 161, none⟩), .pointer (some ⟨w.heap.size, 0, none⟩), .int .u64 150] 172)) (by rw [World.cell?_alloc_lt _ _ ⟨w.heap.size, 0, none⟩ (by simp; omega)]; simp)
  have st := rl_set t ⟨w.heap.size + 1 + 1 + 1, 0, none⟩ k old ((((w.alloc (.cells #[.pointer (some t)] 161)).alloc (.cells #[.pointer (some ⟨3, 161, none⟩), .pointer (some ⟨w.heap.size, 0, none⟩), .int .u64 150] 172)).alloc (.cells #[.pointer (some ⟨3, 161, none⟩), .pointer (some ⟨w.heap.size, 0, none⟩), .int .u64 150] 172)).alloc (.cells #[.int .i64 k] 118))
    (by rw [World.cell?_alloc_at _ _ _ _ (by simp)]; rfl)
    (by rw [World.cell?_alloc_lt _ _ t (by simp; omega), World.cell?_alloc_lt _ _ t (by simp; omega), World.cell?_alloc_lt _ _ t (by simp; omega), World.cell?_alloc_lt _ _ t htl]; exact ht0)
    (by rw [World.frozen?_alloc_old _ _ t (by simp; omega), World.frozen?_alloc_old _ _ t (by simp; omega), World.frozen?_alloc_old _ _ t (by simp; omega), World.frozen?_alloc_old _ _ t (Nat.ne_of_lt htl)]; exact hf0)
  go_enter Tryd.func134, Tryd.ntmps134
  go_wp2
  refine wp_loop_rounds 1 ?_
  rw [rounds_succ]
  go_wp2
  go_ret
  exact ⟨rfl, rfl⟩
/-- An error is told by its number. -/
theorem told_nil (w : World) : Calls Tryd.prog 89 #[.nilIface] w fun e w' => e = .returned (.int .i64 0) ∧ Below w.heap.size w w' := by
  go_enter Tryd.func89, Tryd.ntmps89
  go_wp2
  go_ret
  exact ⟨rfl, (by repeat (first | exact Below.refl _ _ | refine balloc ?_ _ | refine Below.drew ?_ | refine below_drewN ?_ _ | refine below_set ?_ (by first | omega | (dsimp only; omega)) _))⟩
set_option maxHeartbeats 4000000 in
theorem told_err (k : Int) (w : World) (hE : ErrAt w) : Calls Tryd.prog 89 #[.iface 118 (.int .i64 k)] w fun e w' => e = .returned (.int .i64 k) ∧ Below w.heap.size w w' := by
  go_enter Tryd.func89, Tryd.ntmps89
  go_wp2_with fail
  refine (as_hit k ⟨w.heap.size, 0, none⟩ (.int .i64 0) _ (by rw [World.cell?_alloc_lt _ _ ⟨2, 0, none⟩ hE.2]; exact hE.1) (by simp; have := hE.2; omega) (by simp) (by simp)).mono ?_; rintro e w1 ⟨rfl, hw⟩
  have hc : w1.cell? ⟨w.heap.size, 0, none⟩ = some (.int .i64 k) := by
    rw [hw]; refine World.cell?_setCell_same (u := .int .i64 0) _ _ _ ?_
    rw [World.cell?_alloc_lt _ _ ⟨w.heap.size, 0, none⟩ (by simp; omega), World.cell?_alloc_lt _ _ ⟨w.heap.size, 0, none⟩ (by simp; omega), World.cell?_alloc_lt _ _ ⟨w.heap.size, 0, none⟩ (by simp; omega), World.cell?_alloc_lt _ _ ⟨w.heap.size, 0, none⟩ (by simp)]; simp
  have hb : Below w.heap.size w w1 := by
    rw [hw]; exact below_set (balloc (balloc (balloc (balloc (below_alloc _ _) _) _) _) _) (Nat.le_refl _) _
  have hz := hb.size
  have hl : w.heap.size < w1.heap.size := by rw [hw]; simp; omega
  clear hw
  go_wp2
  go_ret
  exact ⟨rfl, hb⟩
theorem error_nil (n : Int) (w : World) (b : Bool) (h : Hid (((0 : Int) == n) = b)) : Calls Tryd.prog 21 #[.nilIface, .int .i64 n] w fun e w' => e = .returned (.bool b) ∧ Below w.heap.size w w' := by
  go_enter Tryd.func21, Tryd.ntmps21
  go_wp2_with fail
  refine (told_nil _).mono ?_; rintro e w1 ⟨rfl, hb⟩
  have he := h.out
  go_wp2
  go_ret
  exact ⟨rfl, hb⟩
theorem error_err (k n : Int) (w : World) (hE : ErrAt w) (b : Bool) (h : Hid ((k == n) = b)) : Calls Tryd.prog 21 #[.iface 118 (.int .i64 k), .int .i64 n] w fun e w' => e = .returned (.bool b) ∧ Below w.heap.size w w' := by
  go_enter Tryd.func21, Tryd.ntmps21
  go_wp2_with fail
  refine (told_err k _ hE).mono ?_; rintro e w1 ⟨rfl, hb⟩
  have he := h.out
  go_wp2
  go_ret
  exact ⟨rfl, hb⟩
/-- An error's value, by its number; it is told as that number. -/
theorem error_same (E : Value) (n : Int) (w : World) (hE : ErrAt w) (h : Hid (E = errV n)) : Calls Tryd.prog 21 #[E, .int .i64 n] w fun e w' => e = .returned (.bool true) ∧ Below w.heap.size w w' := by
  rw [h.out]; unfold errV
  split
  · next e => rw [e]; exact error_nil 0 w true rfl
  · exact error_err n n w hE true (by show _ = _; simp)
end Go.Proofs.YtfnifdmnbccblaaDoor
namespace Go.Proofs.YtfnifdmnbccblaaDoor
open Go.RowKit
set_option maxRecDepth 100000
set_option linter.unusedVariables false
set_option linter.unusedSimpArgs false
/-- Keys, texts and seals that lie there. -/
def BItems (w : World) (a0 a1 a2 : Option Addr) (L : List It) : Prop :=
  (0 < L.length → ∃ b off, a0 = some ⟨b, off, none⟩ ∧ SpotsAt w b off (L.map (·.key))) ∧ (0 < L.length → ∃ b off, a1 = some ⟨b, off, none⟩ ∧ StrsAt w b off (L.map (·.t))) ∧ (0 < L.length → ∃ b off, a2 = some ⟨b, off, none⟩ ∧ SlsAt w b off (L.map fun x => (x.R, x.S)))
theorem BItems.at {w : World} {a0 a1 a2 : Option Addr} {L : List It} (h : BItems w a0 a1 a2 L) (n : Nat) (hlt : n < L.length) : ∃ b1 o1 b2 o2 b3 o3, a0 = some ⟨b1, o1, none⟩ ∧ a1 = some ⟨b2, o2, none⟩ ∧ a2 = some ⟨b3, o3, none⟩ ∧
    ∀ w', Below w.heap.size w w' → w'.cell? ⟨b1, o1 + n * 3, none⟩ = some (.int .i64 L[n].key.x) ∧ w'.cell? ⟨b1, o1 + n * 3 + 1, none⟩ = some (.int .i64 L[n].key.y) ∧ w'.cell? ⟨b1, o1 + n * 3 + 2, none⟩ = some (.bool L[n].key.far) ∧
          w'.cell? ⟨b2, o2 + n, none⟩ = some (.string L[n].t) ∧ w'.cell? ⟨b3, o3 + n * 4, none⟩ = some (.int .i64 L[n].R.x) ∧ w'.cell? ⟨b3, o3 + n * 4 + 1, none⟩ = some (.int .i64 L[n].R.y) ∧ w'.cell? ⟨b3, o3 + n * 4 + 2, none⟩ = some (.bool L[n].R.far) ∧ w'.cell? ⟨b3, o3 + n * 4 + 3, none⟩ = some (.int .i64 L[n].S) ∧
          b1 < w'.heap.size ∧ b2 < w'.heap.size ∧ b3 < w'.heap.size := by
  obtain ⟨i1, i2, i3⟩ := h
  obtain ⟨b1, o1, rfl, l1⟩ := i1 (by omega)
  obtain ⟨b2, o2, rfl, l2⟩ := i2 (by omega)
  obtain ⟨b3, o3, rfl, l3⟩ := i3 (by omega)
  refine ⟨b1, o1, b2, o2, b3, o3, rfl, rfl, rfl, fun w' hb => ?_⟩
  have k1 := l1.below hb
  have k2 := l2.below hb
  have k3 := l3.below hb
  have e1 := k1.cx n (by simpa using hlt)
  have e2 := k1.cy n (by simpa using hlt)
  have e3 := k1.cf n (by simpa using hlt)
  have e4 := k2.c n (by simpa using hlt)
  have e5 := k3.cx n (by simpa using hlt)
  have e6 := k3.cy n (by simpa using hlt)
  have e7 := k3.cf n (by simpa using hlt)
  have e8 := k3.cs n (by simpa using hlt)
  simp only [List.getElem_map] at e1 e2 e3 e4 e5 e6 e7 e8
  exact ⟨e1, e2, e3, e4, e5, e6, e7, e8, k1.lt, k2.lt, k3.lt⟩
theorem It.sealF0 {x : It} (h : x.ok) : sealF x.key x.R x.S x.t.size = 0 := by
  obtain ⟨a, r, ha, hr, -, hz, s0, s1⟩ := h
  have ok : sCheck x.key = 0 := (ok_iff _).mpr (ok_of ha)
  have oR : sCheck x.R = 0 := (ok_iff _).mpr (ok_of hr)
  unfold sealF
  rw [if_neg (by omega), if_neg (by rw [ok]; decide), if_neg (by rw [oR]; decide), if_pos ⟨s0, s1⟩]
theorem IntSl.noneb (w : World) : IntSl w (.slice none 0 0) [] := ⟨none, 0, rfl, fun h => absurd h (Nat.lt_irrefl 0)⟩
set_option maxHeartbeats 64000000 in
theorem bt_core (a0 a1 a2 a3 : Option Addr) (n0 n1 n2 n3 c0 c1 c2 c3 : Nat) (w : World) (hF : FarAt w) (hE : ErrAt w)
    (j0 : n0 ≤ 9223372036854775807) (j3 : n3 ≤ 9223372036854775807) (F0 E0 E1 F1 : Int) (B38 FB V : Bool) (WL : List Int) (hWl : Hid (WL.length ≤ 1000000))
    (kM : Hid (∀ w1 : World, Calls Tryd.prog 25 #[.slice a0 n0 c0, .slice a1 n1 c1, .slice a2 n2 c2] w1 fun e w' => e = .returned (.int .i64 F0) ∧ Below w1.heap.size w1 w'))
    (h0 : Hid (((F0 == 0) = false ∧ B38 = false) ∨ (F0 = 0 ∧ ((n3 : Int) != (n0 : Int)) = B38)))
    (h00 : Hid ((B38 = true ∧ E0 = 3) ∨ (B38 = false ∧ E0 = F0)))
    (h1 : Hid (((E0 == 0) = false ∧ E1 = E0) ∨ (E0 = 0 ∧ ∃ (L : List It) (ws : List Int) (k : Nat), n0 = L.length ∧ n1 = L.length ∧ n2 = L.length ∧ n3 = L.length ∧ L.length ≤ 12 ∧ ws.length = L.length ∧ BItems w a0 a1 a2 L ∧ (0 < L.length → ∃ b off, a3 = some ⟨b, off, none⟩ ∧ IntsAt w b off ws) ∧ k ≤ L.length ∧
      (∀ i (h : i < L.length) (h' : i < ws.length), i < k → It.ok L[i] ∧ 1 ≤ ws[i] ∧ ws[i] < 1013) ∧ (∀ (h : k < L.length) (h' : k < ws.length), (E1 == 0) = false ∧ ((sealF L[k].key L[k].R L[k].S L[k].t.size = E1 ∧ L[k].t.size ≤ 140737488351232) ∨ (It.ok L[k] ∧ ¬ (1 ≤ ws[k] ∧ ws[k] < 1013) ∧ E1 = 1))) ∧ (k = L.length → E1 = 0 ∧ (sq (dot (L.map (·.e)) ws)).far = FB))))
    (kV : Hid (∀ w1 : World, Below w.heap.size w w1 → Calls Tryd.prog 32 #[.slice a0 n0 c0, .slice a1 n1 c1, .slice a2 n2 c2, .slice a3 n3 c3] w1 fun e w' => e = .returned (.tuple #[.bool V, errV E1]) ∧ Below w1.heap.size w1 w'))
    (h3 : Hid ((E1 = 0 ∧ V = FB) ∨ ((E1 == 0) = false ∧ V = false)))
    (h4 : Hid (((F0 == 0) = false ∧ F1 = F0) ∨ (F0 = 0 ∧ ∃ (L : List It) (k : Nat), n0 = L.length ∧ n1 = L.length ∧ n2 = L.length ∧ L.length ≤ 12 ∧ BItems w a0 a1 a2 L ∧ k ≤ L.length ∧
      (∀ i (h : i < L.length), i < k → It.ok L[i]) ∧ (∀ (h : k < L.length), (F1 == 0) = false ∧ sealF L[k].key L[k].R L[k].S L[k].t.size = F1 ∧ L[k].t.size ≤ 140737488351232) ∧ (k = L.length → F1 = 0 ∧ WL = wrongs (L.map (·.e)) L.length))))
    (h5 : Hid (F1 = 0 ∨ ((F1 == 0) = false ∧ WL = [])))
    (kW : Hid (∀ w1 : World, Below w.heap.size w w1 → Calls Tryd.prog 34 #[.slice a0 n0 c0, .slice a1 n1 c1, .slice a2 n2 c2] w1 fun e w' => ∃ v', e = .returned (.tuple #[v', errV F1]) ∧ IntSl w' v' WL ∧ Below w1.heap.size w1 w')) :
    Calls Tryd.prog 5 #[.slice a0 n0 c0, .slice a1 n1 c1, .slice a2 n2 c2, .slice a3 n3 c3] w fun e w' => e = .returned (.bool true) ∧ Below w.heap.size w w' := by
  go_enter Tryd.func5, Tryd.ntmps5
  go_wp2_with fail
  refine (kM.out _).mono ?_; rintro e w1 ⟨rfl, hb⟩
  obtain ⟨hc1, hf1⟩ := bcell hb
  have z1 := hb.size
  try simp only [World.size_alloc, World.size_setCell, World.size_drew] at z1
  have hB1 : Below w.heap.size w w1 := below_seq (by repeat (first | exact Below.refl _ _ | refine balloc ?_ _ | refine Below.drew ?_ | refine below_drewN ?_ _ | refine below_set ?_ (by first | omega | (dsimp only; omega)) _)) hb
  clear hb
  go_upto_region 3 with fail
  go_cut [38] from 30 to 37 (fun s38 wx => s38 = .bool B38 ∧ Below w.heap.size w wx)
  case first =>
    rcases h0.out with ⟨e1, e2⟩ | ⟨e1, e2⟩
    · subst e2
      clear h0
      go_wp2_with fail
      go_meet
      exact ⟨rfl, (by repeat (first | exact hB1 | exact Below.refl _ _ | refine balloc ?_ _ | refine Below.drew ?_ | refine below_drewN ?_ _ | refine below_set ?_ (by first | omega | (dsimp only; omega)) _))⟩
    · subst e1
      clear h0
      go_wp2_with fail
      go_meet
      exact ⟨rfl, (by repeat (first | exact hB1 | exact Below.refl _ _ | refine balloc ?_ _ | refine Below.drew ?_ | refine below_drewN ?_ _ | refine below_set ?_ (by first | omega | (dsimp only; omega)) _))⟩
  case rest =>
    obtain ⟨w2, hwq⟩ : ∃ x, x = wc := ⟨_, rfl⟩
    subst hwq
    obtain ⟨rfl, hB2⟩ := hcut
    clear h0
    go_upto_if 38 with fail
    go_cut [10] from 39 to 39 (fun s10 wx => s10 = .int .i64 E0 ∧ Below w.heap.size w wx)
    case first =>
      rcases h00.out with ⟨e1, e2⟩ | ⟨e1, e2⟩
      · subst e1 e2
        clear h00
        go_wp2_with fail
        go_meet
        exact ⟨rfl, (by repeat (first | exact hB2 | exact Below.refl _ _ | refine balloc ?_ _ | refine Below.drew ?_ | refine below_drewN ?_ _ | refine below_set ?_ (by first | omega | (dsimp only; omega)) _))⟩
      · subst e1 e2
        clear h00
        go_wp2_with fail
        go_meet
        exact ⟨rfl, (by repeat (first | exact hB2 | exact Below.refl _ _ | refine balloc ?_ _ | refine Below.drew ?_ | refine below_drewN ?_ _ | refine below_set ?_ (by first | omega | (dsimp only; omega)) _))⟩
    case rest =>
      obtain ⟨w3, hwq⟩ : ∃ x, x = wc := ⟨_, rfl⟩
      subst hwq
      obtain ⟨rfl, hB3⟩ := hcut
      clear h00 kM
      go_upto_block 0 with fail
      go_cut [10, 12, 13, 14, 15, 16] from 40 to 117 (fun s10 s12 s13 s14 s15 s16 wx => s10 = .int .i64 E1 ∧ (∃ P : Sp, SpAt wx w3.heap.size P ∧ (E1 = 0 → P.far = FB)) ∧ Below w.heap.size w wx)
      case first =>
        rcases h1.out with ⟨e1, e2⟩ | ⟨e1, L, ws, k, e3, e4, e5, e6, h12, hwl, hI, hW, hk, e7, e8, e9⟩
        · subst e2
          clear h1 h3
          have hS : SpAt (w3.alloc (.cells #[.int .i64 0, .int .i64 0, .bool true] 25)) w3.heap.size ⟨0, 0, true⟩ := SpAt.fresh w3 0 0 true _
          have hS2 : ∃ P : Sp, SpAt (w3.alloc (.cells #[.int .i64 0, .int .i64 0, .bool true] 25)) w3.heap.size P ∧ (E1 = 0 → P.far = FB) := ⟨_, hS, fun h => by rw [h] at e1; exact absurd e1 (by decide)⟩
          replace hS2 := Lib.hid hS2
          clear hS
          rcases Nat.eq_zero_or_pos n0 with hm0 | hm0
          · have g1 : decide ((0 : Int) < (n0 : Int)) = false := by rw [decide_eq_false_iff_not]; omega
            go_wp2_with fail
            refine wp_loop_rounds 1 ?_
            rw [rounds_succ]
            go_wp2_with fail
            go_meet
            exact ⟨rfl, hS2.out, (by repeat (first | exact hB3 | exact Below.refl _ _ | refine balloc ?_ _ | refine Below.drew ?_ | refine below_drewN ?_ _ | refine below_set ?_ (by first | omega | (dsimp only; omega)) _))⟩
          · have g1 : decide ((0 : Int) < (n0 : Int)) = true := by rw [decide_eq_true_iff]; omega
            go_wp2_with fail
            refine wp_loop_rounds 1 ?_
            rw [rounds_succ]
            go_wp2_with fail
            go_meet
            exact ⟨rfl, hS2.out, (by repeat (first | exact hB3 | exact Below.refl _ _ | refine balloc ?_ _ | refine Below.drew ?_ | refine below_drewN ?_ _ | refine below_set ?_ (by first | omega | (dsimp only; omega)) _))⟩
        · subst e1 e3 e4 e5 e6
          replace e7 := Lib.hid e7
          replace e8 := Lib.hid e8
          replace e9 := Lib.hid e9
          replace hI := Lib.hid hI
          replace hW := Lib.hid hW
          have hdn := Lib.hid (fun n (h : n < L.length) => dot_snoc (L.map (·.e)) ws n (by simpa using h) (by omega))
          have hS0 : SpAt (w3.alloc (.cells #[.int .i64 0, .int .i64 0, .bool true] 25)) w3.heap.size ⟨0, 0, true⟩ := SpAt.fresh w3 0 0 true _
          replace hS0 := Lib.hid hS0
          replace hwl := Lib.hid hwl
          clear h1 h3 h4 h5
          go_wp2_with fail
          go_loopw [10, 12, 13, 14, 15, 16] (fun e i p13 p14 p15 p16 wr => ∃ q : Nat, q ≤ L.length ∧ i = .int .i64 q ∧ ((q ≤ k ∧ e = .int .i64 0 ∧ SpAt wr w3.heap.size (sq (dot ((L.map (·.e)).take q) ws))) ∨ (k < L.length ∧ q = k + 1 ∧ e = .int .i64 E1 ∧ ∃ P : Sp, SpAt wr w3.heap.size P)) ∧ Below w3.heap.size w3 wr) (fun _ i _ _ _ _ _ => L.length - (intOf i).toNat)
          case atStart => exact ⟨0, Nat.zero_le _, rfl, .inl ⟨Nat.zero_le _, rfl, by rw [List.take_zero, dot_nil, sq_zero]; exact hS0.out⟩, below_alloc _ _⟩
          case round =>
            obtain ⟨q, hq, rfl, hcase, hbr⟩ := hrel
            have hBr : Below w.heap.size w wr := below_seq hB3 hbr
            rcases hcase with ⟨hqk, rfl, hSq⟩ | ⟨hkm, rfl, rfl, P, hSq⟩
            · replace hSq := Lib.hid hSq
              by_cases hqm : q < L.length
              · have hqw : q < ws.length := by rw [hwl.out]; exact hqm
                obtain ⟨b1, o1, b2, o2, b3, o3, rfl, rfl, rfl, hA⟩ := hI.out.at q hqm
                obtain ⟨b4, o4, rfl, hw4⟩ := hW.out (by omega)
                have hc4 := Lib.hid (fun w' (hb' : Below w.heap.size w w') => (⟨(hw4.below hb').c q hqw, (hw4.below hb').lt⟩ : w'.cell? ⟨b4, o4 + q, none⟩ = some (.int .i64 ws[q]) ∧ b4 < w'.heap.size))
                have hd := hdn.out q hqm
                rw [List.getElem_map] at hd
                have hok1 := Lib.hid (e7.out q hqm hqw)
                have hbad1 := Lib.hid (e8.out)
                have hqwi : (q : Int) < (ws.length : Int) := by omega
                clear hw4 e7 e8 e9 hdn
                by_cases hqk2 : q < k
                · obtain ⟨hok, y1, y2⟩ := hok1.out hqk2
                  have hs0 := It.sealF0 hok
                  have hts := hok
                  obtain ⟨ka, kr, ha, hr, he, hz6, s0', s1'⟩ := hts
                  clear hbad1 hok1 hok
                  generalize L[q] = I at *
                  obtain ⟨A, t, R, S, f⟩ := I
                  simp only at hA hd hs0 ha hr he hz6 s0' s1'
                  generalize (ws[q]'hqw) = c at *
                  have bd := askN_bd R A t.data.toList
                  obtain ⟨a, hae⟩ : ∃ a, askN R A t.data.toList = a := ⟨_, rfl⟩
                  rw [hae] at he bd
                  obtain ⟨bd0, bd1⟩ := bd
                  have oA : Ok A := ok_of ha
                  have oR : Ok R := ok_of hr
                  obtain ⟨S4, hS4⟩ : ∃ x, sq (4 * S) = x := ⟨_, rfl⟩
                  obtain ⟨Rm, hRm⟩ : ∃ x, sq (kr * (-1)) = x := ⟨_, rfl⟩
                  obtain ⟨Z1, hZ1⟩ : ∃ x, sSum S4 Rm = x := ⟨_, rfl⟩
                  have hZ1e : Z1 = sq (4 * S + kr * (-1)) := by rw [← hZ1, ← hS4, ← hRm, sq_add]
                  obtain ⟨C1, hC1⟩ : ∃ x, sq (ka * (-a)) = x := ⟨_, rfl⟩
                  obtain ⟨Z2, hZ2⟩ : ∃ x, sSum Z1 C1 = x := ⟨_, rfl⟩
                  have hZ2e : Z2 = sq f := by
                    rw [← hZ2, hZ1e, ← hC1, sq_add, he]
                    have hmn := Int.mul_neg ka a
                    rw [hmn]
                    generalize ka * a = mm
                    congr 1
                    omega
                  obtain ⟨C, hC⟩ : ∃ x, sq (f * c) = x := ⟨_, rfl⟩
                  obtain ⟨D, hD⟩ : ∃ x, sSum (sq (dot ((L.map (·.e)).take q) ws)) C = x := ⟨_, rfl⟩
                  have oP := sq_ok (dot ((L.map (·.e)).take q) ws)
                  have hDe : Hid (sq (dot ((L.map (·.e)).take (q + 1)) ws) = D) := Lib.hid (by rw [hd, ← sq_add, hC]; exact hD)
                  have oS4 : Ok S4 := by rw [← hS4]; exact sq_ok _
                  have oRm : Ok Rm := by rw [← hRm]; exact sq_ok _
                  have oZ1 : Ok Z1 := by rw [hZ1e]; exact sq_ok _
                  have oC1 : Ok C1 := by rw [← hC1]; exact sq_ok _
                  have oC : Ok C := by rw [← hC]; exact sq_ok _
                  clear hd he hZ1e
                  generalize sq (dot ((L.map (·.e)).take q) ws) = P at *
                  replace hs0 := Lib.hid hs0
                  replace ha := Lib.hid ha
                  replace hr := Lib.hid hr
                  replace hae := Lib.hid hae
                  replace hS4 := Lib.hid hS4
                  replace hRm := Lib.hid hRm
                  replace hZ1 := Lib.hid hZ1
                  replace hC1 := Lib.hid hC1
                  replace hZ2 := Lib.hid hZ2
                  replace hZ2e := Lib.hid hZ2e
                  replace hC := Lib.hid hC
                  replace hD := Lib.hid hD
                  replace hA := Lib.hid hA
                  have hng : IntKind.i64.wrap (-a) = -a := IntWalk.i64_in _ (by omega)
                  have hts : t.size ≤ 140737488351232 := by omega
                  obtain ⟨l1, l2, l3, l4, l5, l6, l7, l8, l9, l10, l11⟩ := hA.out wr hBr
                  go_wp2_with fail
                  refine wp_region_grow Tryd.mixed (by kernel_rfl) ?_
                  repeat (quiet_step ((go_at_call 26; exact grow_of (rSeal_e A R S 0 t _ hts hs0))))
                  refine wpQuiet_nil ?_
                  intro _ hw'
                  obtain ⟨x4, rfl⟩ := hw'
                  have hB4 := below_seq hBr x4.h
                  have hb4 := Lib.hid (below_seq hbr x4.h)
                  have hS4q := Lib.hid (hSq.out.below x4.h)
                  clear l1 l2 l3 l4 l5 l6 l7 l8 l9 l10 l11 hBr hbr hSq
                  generalize hyw : x4.w = u4 at *
                  clear hyw x4
                  obtain ⟨l12, l13⟩ := hc4.out u4 hB4
                  go_wp2_with fail
                  refine (rSecret_b c true _ (Lib.hid (decide_eq_true ⟨y1, y2⟩))).mono ?_; rintro e w' ⟨rfl, rfl⟩
                  clear l12 l13
                  obtain ⟨l1, l2, l3, l4, l5, l6, l7, l8, l9, l10, l11⟩ := hA.out u4 hB4
                  go_wp2_with fail
                  refine wp_region_grow Tryd.mixed (by kernel_rfl) ?_
                  repeat (quiet_step ((go_at_call 28; exact grow_of (rAsk_e R A t a _ oR oA hz6 hae))))
                  refine wpQuiet_nil ?_
                  intro _ hw'
                  obtain ⟨x5, rfl⟩ := hw'
                  have hB5 := below_seq hB4 x5.h
                  have hb5 := Lib.hid (below_seq hb4.out x5.h)
                  have hS5q := Lib.hid (hS4q.out.below x5.h)
                  clear l1 l2 l3 l4 l5 l6 l7 l8 l9 l10 l11 hB4 hb4 hS4q
                  generalize hyw : x5.w = u5 at *
                  clear hyw x5
                  obtain ⟨l1, l2, l3, l4, l5, l6, l7, l8, l9, l10, l11⟩ := hA.out u5 hB5
                  go_wp2_with fail
                  go_cut [15] from 90 to 100 (fun s15 wx => ∃ p : Nat, s15 = .pointer (some ⟨p, 0, none⟩) ∧ SpAt wx p Z1 ∧ Below u5.heap.size u5 wx)
                  case first =>
                    try clear kV
                    try clear kW
                    try clear hE
                    try clear hF
                    try clear hWl
                    try clear hI
                    try clear hW
                    try clear hc4
                    try clear hA
                    try clear hS5q
                    try clear hDe
                    try clear oP
                    try clear oC
                    try clear hC
                    try clear hD
                    try clear hC1
                    try clear hZ2
                    try clear hZ2e
                    try clear ha
                    try clear hae
                    try clear hs0
                    try clear hwl
                    try clear hqwi
                    try clear hqw
                    try clear h1
                    try clear h3
                    try clear h4
                    try clear h5
                    try clear hS0
                    try clear oA
                    try clear oR
                    try clear oC1
                    try clear oZ1
                    try clear hng
                    try clear hts
                    try clear hz6
                    try clear hb5
                    try clear l1
                    try clear l2
                    try clear l3
                    try clear l4
                    try clear y1
                    try clear y2
                    try clear bd0
                    try clear bd1
                    try clear hq
                    try clear hqk
                    try clear hqk2
                    try clear hqwi
                    try clear h12
                    try clear hk
                    try clear j0
                    try clear j3
                    try clear hc1
                    try clear hf1
                    try clear z1
                    try clear hB1
                    try clear hB2
                    try clear hB3
                    try clear hB5
                    try clear hM
                    go_region_with (go_at_call 29; refine (refSum_e S (-1) kr R S4 Rm Z1 _ (by omega) (by omega) (by decide) (by decide) hr hS4 hRm oS4 oRm hZ1).mono ?_; rintro e wa ⟨rfl, ha2⟩; have hwa : Below u5.heap.size u5 wa := below_seq (by repeat (first | exact Below.refl _ _ | refine balloc ?_ _ | refine Below.drew ?_)) ha2; have hza := hwa.size; (first | (refine hav_ (P := SpAt wa u5.heap.size ⟨0, 0, false⟩) (SpAt.below (SpAt.fresh _ _ _ _ _) ha2) (fun kC => ?_); obtain ⟨c0, c1, c2, c3, c4, c5, c6⟩ := kC) | (refine hav_ (P := SpAt wa u5.heap.size ⟨0, 0, false⟩) (SpAt.below (SpAt.drew (SpAt.fresh _ _ _ _ _)) ha2) (fun kC => ?_); obtain ⟨c0, c1, c2, c3, c4, c5, c6⟩ := kC) | skip))
                    all_goals
                      go_wp2_with fail
                      go_meet
                      first
                      | exact ⟨_, rfl, SpAt.fresh _ _ _ _ _, balloc hwa _⟩
                      | exact ⟨_, rfl, (SpAt.zero_of (by assumption) (by assumption) (by assumption) (by assumption) (by assumption) (by assumption) (by assumption)).set3 Z1, set3_below hwa (by omega)⟩
                  case rest =>
                  obtain ⟨p15, rfl, hp15, hw15⟩ := hcut
                  obtain ⟨u6, hu6⟩ : ∃ x, x = wc := ⟨_, rfl⟩
                  subst hu6
                  have hB6 := below_seq hB5 hw15
                  have hb6 := Lib.hid (below_seq hb5.out hw15)
                  have hS6q := Lib.hid (hS5q.out.below hw15)
                  clear l1 l2 l3 l4 l5 l6 l7 l8 l9 l10 l11 hB5 hb5 hS5q hw15
                  obtain ⟨l1, l2, l3, l4, l5, l6, l7, l8, l9, l10, l11⟩ := hA.out _ hB6
                  clear l4 l5 l6 l7 l8 l10 l11
                  obtain ⟨r0, r1, r2, -, -, -, q1⟩ := hp15
                  have na : -9223372036854775808 ≤ -a := by omega
                  have nb : -a ≤ 9223372036854775807 := by omega
                  go_wp2_with fail
                  go_cut [16] from 101 to 109 (fun s16 wx => ∃ p : Nat, s16 = .pointer (some ⟨p, 0, none⟩) ∧ SpAt wx p Z2 ∧ Below u6.heap.size u6 wx)
                  case first =>
                    try clear kV
                    try clear kW
                    try clear hE
                    try clear hF
                    try clear hWl
                    try clear hI
                    try clear hW
                    try clear hc4
                    try clear hA
                    try clear hS6q
                    try clear hDe
                    try clear oP
                    try clear oC
                    try clear hC
                    try clear hD
                    try clear hS4
                    try clear hRm
                    try clear hZ1
                    try clear hZ2e
                    try clear hr
                    try clear hae
                    try clear hs0
                    try clear hwl
                    try clear hqwi
                    try clear hqw
                    try clear h1
                    try clear h3
                    try clear h4
                    try clear h5
                    try clear hS0
                    try clear oA
                    try clear oR
                    try clear oS4
                    try clear oRm
                    try clear hts
                    try clear hz6
                    try clear hb6
                    try clear y1
                    try clear y2
                    try clear bd0
                    try clear bd1
                    try clear hq
                    try clear hqk
                    try clear hqk2
                    try clear h12
                    try clear hk
                    try clear j0
                    try clear j3
                    try clear hc1
                    try clear hf1
                    try clear z1
                    try clear hB1
                    try clear hB2
                    try clear hB3
                    try clear hB6
                    try clear s0'
                    try clear s1'
                    go_region_with (first | (go_at_call 31; refine (refTimes_e A C1 ka (-a) _ na nb ha hC1).mono ?_; rintro e wa ⟨rfl, ha2⟩; have hwa : Below u6.heap.size u6 wa := below_seq (by repeat (first | exact Below.refl _ _ | refine balloc ?_ _ | refine Below.drew ?_)) ha2; have hza := hwa.size; have sA1 : p15 < wa.heap.size := Nat.lt_of_lt_of_le q1 hza; have ta0 := ((bcell hwa).1 _ 0 q1).trans r0; have ta1 := ((bcell hwa).1 _ 1 q1).trans r1; have ta2 := ((bcell hwa).1 _ 2 q1).trans r2; (first | (refine hav_ (P := SpAt wa u6.heap.size ⟨0, 0, false⟩) (SpAt.below (SpAt.fresh _ _ _ _ _) ha2) (fun kA => ?_)) | (refine hav_ (P := SpAt wa u6.heap.size ⟨0, 0, false⟩) (SpAt.below (SpAt.drew (SpAt.fresh _ _ _ _ _)) ha2) (fun kA => ?_)) | skip)) | (go_at_call 30; refine (refAdd_e Z1 C1 Z2 _ oZ1 oC1 hZ2).mono ?_; rintro e wb ⟨rfl, hb⟩; have hwb : Below wa.heap.size wa wb := below_seq (by repeat (first | exact Below.refl _ _ | refine balloc ?_ _ | refine Below.drew ?_)) hb; have hzb := hwb.size; (first | (have kB := kA.below hwb; obtain ⟨b0, b1', b2', b3', b4', b5', b6'⟩ := kA.below hwb) | skip); (first | (refine hav_ (P := SpAt wb wa.heap.size ⟨0, 0, false⟩) (SpAt.below (SpAt.fresh _ _ _ _ _) hb) (fun kC => ?_); obtain ⟨c0, c1, c2, c3, c4, c5, c6⟩ := kC) | (refine hav_ (P := SpAt wb wa.heap.size ⟨0, 0, false⟩) (SpAt.below (SpAt.drew (SpAt.fresh _ _ _ _ _)) hb) (fun kC => ?_); obtain ⟨c0, c1, c2, c3, c4, c5, c6⟩ := kC) | skip)))
                    all_goals
                      go_wp2_with fail
                      go_meet
                      have hBx := below_seq hwa hwb
                      first
                      | exact ⟨_, rfl, SpAt.fresh _ _ _ _ _, balloc hBx _⟩
                      | exact ⟨_, rfl, kB.set3 Z2, set3_below hBx (by omega)⟩
                      | exact ⟨_, rfl, (SpAt.zero_of (by assumption) (by assumption) (by assumption) (by assumption) (by assumption) (by assumption) (by assumption)).set3 Z2, set3_below hBx (by omega)⟩
                  case rest =>
                  obtain ⟨p16, rfl, hp16, hw16⟩ := hcut
                  obtain ⟨u8, hu8⟩ : ∃ x, x = wc := ⟨_, rfl⟩
                  subst hu8
                  have hB8 := below_seq hB6 hw16
                  have hb8 := Lib.hid (below_seq hb6.out hw16)
                  have hS8q := Lib.hid (hS6q.out.below hw16)
                  clear l1 l2 l3 l9 hB6 hb6 hS6q hw16 r0 r1 r2 q1
                  obtain ⟨l12, l13⟩ := hc4.out _ hB8
                  obtain ⟨t0, t1, t2, -, -, -, t6⟩ := hp16
                  obtain ⟨p0, p1, p2, p3, p4, p5, p6⟩ := hS8q.out
                  go_wp2_with fail
                  refine wp_region_grow_tail 8 Tryd.mixed (by kernel_rfl) ?_
                  simp only [List.take_succ_cons, List.take_zero, List.drop_succ_cons, List.drop_zero]
                  repeat (quiet_step (first | (go_at_call 31; exact grow_of (refTimes_e Z2 C f c _ (by omega) (by omega) hZ2e hC)) | (go_at_call 30; exact grow_of (refAdd_e P C D _ oP oC hD))))
                  refine wpQuiet_nil ?_
                  intro _ hw'
                  obtain ⟨xz, rfl⟩ := hw'
                  have hbz := Lib.hid (below_seq hb8.out xz.h)
                  have hSz := hS8q.out.below xz.h
                  have hSz' := Lib.hid hSz
                  clear l12 l13 p0 p1 p2 p3 p4 p5 p6 t0 t1 t2 t6 hB8 hb8 hS8q
                  generalize hyw : xz.w = uz at *
                  clear hyw xz
                  obtain ⟨p0, p1, p2, p3, p4, p5, p6⟩ := hSz
                  go_wp2
                  go_roundw
                  case rel => exact ⟨q + 1, by omega, by go_num, .inl ⟨by omega, rfl, by rw [hDe.out]; exact hSz'.out.set3 D⟩, set3_below hbz.out (Nat.le_refl _)⟩
                  case measure => simp [intOf]; omega
                · obtain rfl : q = k := by omega
                  obtain ⟨h0, hbd⟩ := hbad1.out hqm hqw
                  clear hbad1 hok1 hd
                  generalize L[q] = I at *
                  obtain ⟨A, t, R, S, f⟩ := I
                  simp only at hA hbd
                  generalize (ws[q]'hqw) = c at *
                  replace hA := Lib.hid hA
                  obtain ⟨l1, l2, l3, l4, l5, l6, l7, l8, l9, l10, l11⟩ := hA.out wr hBr
                  rcases hbd with ⟨hse, hts⟩ | ⟨hok, hcn, rfl⟩
                  · replace hse := Lib.hid hse
                    obtain ⟨cb, hcb⟩ : ∃ cb, secB c = cb := ⟨_, rfl⟩
                    replace hcb := Lib.hid hcb
                    go_wp2_with fail
                    refine wp_region_grow Tryd.mixed (by kernel_rfl) ?_
                    repeat (quiet_step ((go_at_call 26; exact grow_of (rSeal_e A R S E1 t _ hts hse))))
                    refine wpQuiet_nil ?_
                    intro _ hw'
                    obtain ⟨x4, rfl⟩ := hw'
                    have hB4 := below_seq hBr x4.h
                    have hb4 := Lib.hid (below_seq hbr x4.h)
                    have hS4q := Lib.hid (hSq.out.below x4.h)
                    clear l1 l2 l3 l4 l5 l6 l7 l8 l9 l10 l11 hBr hbr hSq
                    generalize hyw : x4.w = u4 at *
                    clear hyw x4
                    obtain ⟨l12, l13⟩ := hc4.out u4 hB4
                    go_wp2_with fail
                    refine (rSecret_b c cb _ hcb).mono ?_; rintro e w' ⟨rfl, rfl⟩
                    clear l12 l13
                    go_wp2
                    go_roundw
                    case rel => exact ⟨q + 1, by omega, by go_num, .inr ⟨hqm, rfl, rfl, _, hS4q.out⟩, hb4.out⟩
                    case measure => simp [intOf]; omega
                  · have hs0 := Lib.hid (It.sealF0 hok)
                    have hts : t.size ≤ 140737488351232 := by obtain ⟨_, _, _, _, _, hz6, _, _⟩ := hok; simp only at hz6; omega
                    have hcf : secB c = false := decide_eq_false hcn
                    replace hcf := Lib.hid hcf
                    simp only at hs0
                    clear hok
                    go_wp2_with fail
                    refine wp_region_grow Tryd.mixed (by kernel_rfl) ?_
                    repeat (quiet_step ((go_at_call 26; exact grow_of (rSeal_e A R S 0 t _ hts hs0))))
                    refine wpQuiet_nil ?_
                    intro _ hw'
                    obtain ⟨x4, rfl⟩ := hw'
                    have hB4 := below_seq hBr x4.h
                    have hb4 := Lib.hid (below_seq hbr x4.h)
                    have hS4q := Lib.hid (hSq.out.below x4.h)
                    clear l1 l2 l3 l4 l5 l6 l7 l8 l9 l10 l11 hBr hbr hSq
                    generalize hyw : x4.w = u4 at *
                    clear hyw x4
                    obtain ⟨l12, l13⟩ := hc4.out u4 hB4
                    go_wp2_with fail
                    refine (rSecret_b c false _ hcf).mono ?_; rintro e w' ⟨rfl, rfl⟩
                    clear l12 l13
                    go_wp2
                    go_roundw
                    case rel => exact ⟨q + 1, by omega, by go_num, .inr ⟨hqm, rfl, rfl, _, hS4q.out⟩, hb4.out⟩
                    case measure => simp [intOf]; omega
              · obtain rfl : q = k := by omega
                obtain ⟨hE1, hFB⟩ := e9.out (by omega)
                clear e7 e8 e9 hI hW
                subst hE1
                have hex : ∃ P : Sp, SpAt wr w3.heap.size P ∧ ((0 : Int) = 0 → P.far = FB) := ⟨_, hSq.out, fun _ => by rw [List.take_of_length_le (by rw [List.length_map]; omega)]; exact hFB⟩
                replace hex := Lib.hid hex
                have g1 : decide ((q : Int) < (L.length : Int)) = false := by rw [decide_eq_false_iff_not]; omega
                have zr := hbr.size
                clear hSq hdn
                go_wp2_with fail
                go_meet
                exact ⟨rfl, hex.out, (by repeat (first | exact hBr | exact Below.refl _ _ | refine balloc ?_ _ | refine Below.drew ?_ | refine below_drewN ?_ _ | refine below_set ?_ (by first | omega | (dsimp only; omega)) _))⟩
            · obtain ⟨h0, -⟩ := e8.out hkm (by rw [hwl.out]; exact hkm)
              clear e7 e8 e9 hI hW hdn
              have hex : ∃ P : Sp, SpAt wr w3.heap.size P ∧ (E1 = 0 → P.far = FB) := ⟨_, hSq, fun h => by rw [h] at h0; exact absurd h0 (by decide)⟩
              replace hex := Lib.hid hex
              clear hSq
              have zr := hbr.size
              by_cases hkl : k + 1 < L.length
              · have g1 : decide (((k + 1 : Nat) : Int) < (L.length : Int)) = true := by rw [decide_eq_true_iff]; omega
                go_wp2_with fail
                go_meet
                exact ⟨rfl, hex.out, (by repeat (first | exact hBr | exact Below.refl _ _ | refine balloc ?_ _ | refine Below.drew ?_ | refine below_drewN ?_ _ | refine below_set ?_ (by first | omega | (dsimp only; omega)) _))⟩
              · have g1 : decide (((k + 1 : Nat) : Int) < (L.length : Int)) = false := by rw [decide_eq_false_iff_not]; omega
                go_wp2_with fail
                go_meet
                exact ⟨rfl, hex.out, (by repeat (first | exact hBr | exact Below.refl _ _ | refine balloc ?_ _ | refine Below.drew ?_ | refine below_drewN ?_ _ | refine below_set ?_ (by first | omega | (dsimp only; omega)) _))⟩
      case rest =>
        obtain ⟨w4, hwq⟩ : ∃ x, x = wc := ⟨_, rfl⟩
        subst hwq
        obtain ⟨rfl, hS, hB4⟩ := hcut
        clear h1
        obtain ⟨P, hS, hPf⟩ := hS
        replace hS := Lib.hid hS
        replace hPf := Lib.hid hPf
        go_wp2_with fail
        refine (kV.out _ (by repeat (first | exact hB4 | exact Below.refl _ _ | refine balloc ?_ _ | refine Below.drew ?_ | refine below_drewN ?_ _ | refine below_set ?_ (by first | omega | (dsimp only; omega)) _))).mono ?_; rintro e w5 ⟨rfl, hb⟩; replace hS := Lib.hid (hS.out.below hb)
        obtain ⟨hc5, hf5⟩ := bcell hb
        have z5 := hb.size
        try simp only [World.size_alloc, World.size_setCell, World.size_drew] at z5
        have hB5 : Below w.heap.size w w5 := below_seq (by repeat (first | exact hB4 | exact Below.refl _ _ | refine balloc ?_ _ | refine Below.drew ?_ | refine below_drewN ?_ _ | refine below_set ?_ (by first | omega | (dsimp only; omega)) _)) hb
        clear hb
        go_upto_region 19 with fail
        go_cut [19] from 126 to 138 (fun s19 wx => s19 = .bool true ∧ Below w.heap.size w wx)
        case first =>
          rcases h3.out with ⟨e1, e2⟩ | ⟨e1, e2⟩
          · subst e1 e2
            have hPV := hPf.out rfl
            obtain ⟨q0, q1, q2, -, -, -, ql⟩ := hS.out
            rw [hPV] at q2
            go_wp2_with fail
            refine (error_same (errV 0) 0 _ (hE.below (by repeat (first | exact hB5 | exact Below.refl _ _ | refine balloc ?_ _ | refine Below.drew ?_ | refine below_drewN ?_ _ | refine below_set ?_ (by first | omega | (dsimp only; omega)) _))) (Lib.hid rfl)).mono ?_; rintro e w6 ⟨rfl, hb⟩; obtain ⟨q0, q1, q2, -, -, -, ql⟩ := hS.out.below hb; rw [hPV] at q2
            obtain ⟨hc6, hf6⟩ := bcell hb
            have z6 := hb.size
            try simp only [World.size_alloc, World.size_setCell, World.size_drew] at z6
            have hB6 : Below w.heap.size w w6 := below_seq (by repeat (first | exact hB5 | exact Below.refl _ _ | refine balloc ?_ _ | refine Below.drew ?_ | refine below_drewN ?_ _ | refine below_set ?_ (by first | omega | (dsimp only; omega)) _)) hb
            clear hb
            go_wp2_with fail
            go_meet
            exact ⟨rfl, (by repeat (first | exact hB6 | exact Below.refl _ _ | refine balloc ?_ _ | refine Below.drew ?_ | refine below_drewN ?_ _ | refine below_set ?_ (by first | omega | (dsimp only; omega)) _))⟩
          · subst e2
            go_wp2_with fail
            refine (error_same (errV E1) E1 _ (hE.below (by repeat (first | exact hB5 | exact Below.refl _ _ | refine balloc ?_ _ | refine Below.drew ?_ | refine below_drewN ?_ _ | refine below_set ?_ (by first | omega | (dsimp only; omega)) _))) (Lib.hid rfl)).mono ?_; rintro e w6 ⟨rfl, hb⟩
            obtain ⟨hc6, hf6⟩ := bcell hb
            have z6 := hb.size
            try simp only [World.size_alloc, World.size_setCell, World.size_drew] at z6
            have hB6 : Below w.heap.size w w6 := below_seq (by repeat (first | exact hB5 | exact Below.refl _ _ | refine balloc ?_ _ | refine Below.drew ?_ | refine below_drewN ?_ _ | refine below_set ?_ (by first | omega | (dsimp only; omega)) _)) hb
            clear hb
            go_wp2_with fail
            go_meet
            exact ⟨rfl, (by repeat (first | exact hB6 | exact Below.refl _ _ | refine balloc ?_ _ | refine Below.drew ?_ | refine below_drewN ?_ _ | refine below_set ?_ (by first | omega | (dsimp only; omega)) _))⟩
        case rest =>
          obtain ⟨w6, hwq⟩ : ∃ x, x = wc := ⟨_, rfl⟩
          subst hwq
          obtain ⟨rfl, hB6⟩ := hcut
          clear h3 hPf hS
          go_upto_block 2 with fail
          go_cut [9, 20, 21, 22] from 139 to 185 (fun s9 s20 s21 s22 wx => s9 = .int .i64 F1 ∧ (F1 = 0 → IntSl wx s20 WL) ∧ Below w.heap.size w wx)
          case first =>
            rcases h4.out with ⟨e1, e2⟩ | ⟨e1, L, k, e3, e4, e5, h12, hI, hk, e7, e8, e9⟩
            · subst e2
              clear h4 h5
              have hn : F1 = 0 → ∀ (wx : World) (v : Value), IntSl wx v WL := fun h => by rw [h] at e1; exact absurd e1 (by decide)
              replace hn := Lib.hid hn
              rcases Nat.eq_zero_or_pos n0 with hm0 | hm0
              · have g1 : decide ((0 : Int) < (n0 : Int)) = false := by rw [decide_eq_false_iff_not]; omega
                go_wp2_with fail
                refine wp_loop_rounds 1 ?_
                rw [rounds_succ]
                go_wp2_with fail
                go_meet
                exact ⟨rfl, (fun h => hn.out h _ _), (by repeat (first | exact hB6 | exact Below.refl _ _ | refine balloc ?_ _ | refine Below.drew ?_ | refine below_drewN ?_ _ | refine below_set ?_ (by first | omega | (dsimp only; omega)) _))⟩
              · have g1 : decide ((0 : Int) < (n0 : Int)) = true := by rw [decide_eq_true_iff]; omega
                go_wp2_with fail
                refine wp_loop_rounds 1 ?_
                rw [rounds_succ]
                go_wp2_with fail
                go_meet
                exact ⟨rfl, (fun h => hn.out h _ _), (by repeat (first | exact hB6 | exact Below.refl _ _ | refine balloc ?_ _ | refine Below.drew ?_ | refine below_drewN ?_ _ | refine below_set ?_ (by first | omega | (dsimp only; omega)) _))⟩
            · subst e1 e3 e4 e5
              replace e7 := Lib.hid e7
              replace e8 := Lib.hid e8
              replace e9 := Lib.hid e9
              replace hI := Lib.hid hI
              have hEg := Lib.hid (fun n (h : n < L.length) => (show (L.map (·.e)).getD n 0 = L[n].e by simp [h]))
              have hwn := Lib.hid (wrongs_len (L.map (·.e)))
              clear h4 h5
              go_wp2_with fail
              go_loopw [9, 20, 21, 22] (fun e uu i p22 wr => ∃ (q : Nat) (u : Value), q ≤ L.length ∧ i = .int .i64 q ∧ u = uu ∧ ((q ≤ k ∧ e = .int .i64 0 ∧ wr.ownsRow w6.heap.size 3 1 u (wrongs (L.map (·.e)) q).length ((wrongs (L.map (·.e)) q).map (Value.int .i64))) ∨ (k < L.length ∧ q = k + 1 ∧ e = .int .i64 F1)) ∧ Below w6.heap.size w6 wr) (fun _ _ i _ _ => L.length - (intOf i).toNat)
              case atStart => exact ⟨0, _, Nat.zero_le _, rfl, rfl, .inl ⟨Nat.zero_le _, rfl, World.ownsRow_nil _ _ _ _⟩, Below.refl _ _⟩
              case round =>
                obtain ⟨q, u, hq, rfl, rfl, hcase, hbr⟩ := hrel
                have hBr : Below w.heap.size w wr := below_seq hB6 hbr
                rcases hcase with ⟨hqk, rfl, hown⟩ | ⟨hkm, rfl, rfl⟩
                · replace hown := Lib.hid hown
                  by_cases hqm : q < L.length
                  · obtain ⟨b1, o1, b2, o2, b3, o3, rfl, rfl, rfl, hA⟩ := hI.out.at q hqm
                    have hd := hEg.out q hqm
                    have hw1 := hwn.out q
                    have hok1 := Lib.hid (e7.out q hqm)
                    have hbad1 := Lib.hid (e8.out)
                    clear e7 e8 e9 hEg hwn
                    by_cases hqk2 : q < k
                    · have hok := hok1.out hqk2
                      have hs0 := It.sealF0 hok
                      obtain ⟨ka, kr, ha, hr, he, hz6, s0', s1'⟩ := hok
                      clear hbad1 hok1
                      generalize L[q] = I at *
                      obtain ⟨A, t, R, S, f⟩ := I
                      simp only at hA hd hs0 ha hr he hz6 s0' s1'
                      obtain ⟨a, hae⟩ : ∃ a, askN R A t.data.toList = a := ⟨_, rfl⟩
                      rw [hae] at he
                      replace hs0 := Lib.hid hs0
                      replace ha := Lib.hid ha
                      replace hr := Lib.hid hr
                      replace hae := Lib.hid hae
                      replace hd := Lib.hid hd
                      replace hA := Lib.hid hA
                      have hts : t.size ≤ 140737488351232 := by omega
                      cases hf : (sq f).far with
                      | true =>
                        have hs : Hid (wrongs (L.map (·.e)) (q + 1) = wrongs (L.map (·.e)) q) := Lib.hid (by show (if (sq ((L.map (·.e)).getD q 0)).far then _ else _) = _; rw [hd.out, if_pos hf])
                        have hfr : Hid ((sq (4 * S + -(kr + ka * a) + 0)).far = true) := Lib.hid (by rw [Int.add_zero, ← he]; exact hf)
                        clear he hf hd
                        obtain ⟨l1, l2, l3, l4, l5, l6, l7, l8, l9, l10, l11⟩ := hA.out wr hBr
                        go_wp2_with fail
                        refine wp_region_grow Tryd.mixed (by kernel_rfl) ?_
                        repeat (quiet_step ((go_at_call 26; exact grow_of (rSeal_e A R S 0 t _ hts hs0))))
                        refine wpQuiet_nil ?_
                        intro _ hw'
                        obtain ⟨x4, rfl⟩ := hw'
                        have hB4 := below_seq hBr x4.h
                        have hb4 := Lib.hid (below_seq hbr x4.h)
                        have ow4 := Lib.hid (own_below hown.out x4.h)
                        clear l1 l2 l3 l4 l5 l6 l7 l8 l9 l10 l11 hBr hbr hown
                        generalize hyw : x4.w = u4 at *
                        clear hyw x4
                        obtain ⟨l1, l2, l3, l4, l5, l6, l7, l8, l9, l10, l11⟩ := hA.out u4 hB4
                        go_wp2_with fail
                        refine wp_region_grow Tryd.mixed (by kernel_rfl) ?_
                        repeat (go_big_quiet_step ((go_at_call 33; exact grow_of (rRight_e A R ⟨0, 0, true⟩ ka kr 0 a S true t _ hz6 s0' s1' ha hr sq_zero.symm hae hfr))))
                        refine wpQuiet_nil ?_
                        intro _ hw'
                        obtain ⟨x5, rfl⟩ := hw'
                        have hb5 := Lib.hid (below_seq hb4.out x5.h)
                        have ow5 := Lib.hid (own_below ow4.out x5.h)
                        clear l1 l2 l3 l4 l5 l6 l7 l8 l9 l10 l11 hB4 hb4 ow4
                        generalize hyw : x5.w = u5 at *
                        clear hyw x5
                        go_wp2
                        go_roundw
                        case rel => exact ⟨q + 1, _, by omega, by go_num, rfl, .inl ⟨by omega, rfl, by rw [hs.out]; exact ow5.out⟩, hb5.out⟩
                        case measure => simp [intOf]; omega
                      | false =>
                        have hs : Hid (wrongs (L.map (·.e)) (q + 1) = wrongs (L.map (·.e)) q ++ [(q : Int)]) := Lib.hid (by show (if (sq ((L.map (·.e)).getD q 0)).far then _ else _) = _; rw [hd.out, if_neg (by rw [hf]; decide)])
                        have hs2 : Hid ((wrongs (L.map (·.e)) (q + 1)).length = (wrongs (L.map (·.e)) q).length + 1) := Lib.hid (by rw [hs.out]; simp)
                        have hfr : Hid ((sq (4 * S + -(kr + ka * a) + 0)).far = false) := Lib.hid (by rw [Int.add_zero, ← he]; exact hf)
                        clear he hf hd
                        generalize wrongs (L.map (·.e)) q = W at *
                        obtain ⟨l1, l2, l3, l4, l5, l6, l7, l8, l9, l10, l11⟩ := hA.out wr hBr
                        go_wp2_with fail
                        refine wp_region_grow Tryd.mixed (by kernel_rfl) ?_
                        repeat (quiet_step ((go_at_call 26; exact grow_of (rSeal_e A R S 0 t _ hts hs0))))
                        refine wpQuiet_nil ?_
                        intro _ hw'
                        obtain ⟨x4, rfl⟩ := hw'
                        have hB4 := below_seq hBr x4.h
                        have hb4 := Lib.hid (below_seq hbr x4.h)
                        have ow4 := Lib.hid (own_below hown.out x4.h)
                        clear l1 l2 l3 l4 l5 l6 l7 l8 l9 l10 l11 hBr hbr hown
                        generalize hyw : x4.w = u4 at *
                        clear hyw x4
                        obtain ⟨l1, l2, l3, l4, l5, l6, l7, l8, l9, l10, l11⟩ := hA.out u4 hB4
                        go_wp2_with fail
                        refine wp_region_grow Tryd.mixed (by kernel_rfl) ?_
                        repeat (go_big_quiet_step ((go_at_call 33; exact grow_of (rRight_e A R ⟨0, 0, true⟩ ka kr 0 a S false t _ hz6 s0' s1' ha hr sq_zero.symm hae hfr))))
                        refine wpQuiet_nil ?_
                        intro _ hw'
                        obtain ⟨x5, rfl⟩ := hw'
                        have hb5 := Lib.hid (below_seq hb4.out x5.h)
                        have ow5 := Lib.hid (own_below ow4.out x5.h)
                        clear l1 l2 l3 l4 l5 l6 l7 l8 l9 l10 l11 hB4 hb4 ow4
                        generalize hyw : x5.w = u5 at *
                        clear hyw x5
                        have zy := hb5.out.size
                        go_wp2_with (first | (at_builtin; refine wpl_append_int rfl _ _ _ rfl (by kernel_rfl) w6.heap.size _ W W.length rfl (ow5.out.alloc _) rfl (by omega) (by simp only [World.size_alloc]; omega) u5.heap.size q rfl (by go_simp) ?_; intro v' w14 hown' hgrow hbel hloc; replace hown' := Lib.hid hown'; replace hbel := Lib.hid (hbel w6 (balloc hb5.out _)); clear hgrow hloc ow5) | fail)
                        go_wp2
                        go_roundw
                        case rel => exact ⟨q + 1, _, by omega, by go_num, rfl, .inl ⟨by omega, rfl, by rw [hs2.out, hs.out]; exact hown'.out⟩, hbel.out⟩
                        case measure => simp [intOf]; omega
                    · obtain rfl : q = k := by omega
                      obtain ⟨h0, hse, hts⟩ := hbad1.out hqm
                      clear hbad1 hok1 hd
                      generalize L[q] = I at *
                      obtain ⟨A, t, R, S, f⟩ := I
                      simp only at hA hse hts
                      replace hA := Lib.hid hA
                      replace hse := Lib.hid hse
                      generalize wrongs (L.map (·.e)) q = W at *
                      obtain ⟨l1, l2, l3, l4, l5, l6, l7, l8, l9, l10, l11⟩ := hA.out wr hBr
                      go_wp2_with fail
                      refine wp_region_grow Tryd.mixed (by kernel_rfl) ?_
                      repeat (quiet_step ((go_at_call 26; exact grow_of (rSeal_e A R S F1 t _ hts hse))))
                      refine wpQuiet_nil ?_
                      intro _ hw'
                      obtain ⟨x4, rfl⟩ := hw'
                      have hB4 := below_seq hBr x4.h
                      have hb4 := Lib.hid (below_seq hbr x4.h)
                      have ow4 := Lib.hid (own_below hown.out x4.h)
                      clear l1 l2 l3 l4 l5 l6 l7 l8 l9 l10 l11 hBr hbr hown
                      generalize hyw : x4.w = u4 at *
                      clear hyw x4
                      obtain ⟨l1, l2, l3, l4, l5, l6, l7, l8, l9, l10, l11⟩ := hA.out u4 hB4
                      go_wp2_with fail
                      refine wp_region_grow Tryd.mixed (by kernel_rfl) ?_
                      repeat (go_big_quiet_step (fail))
                      refine wpQuiet_nil ?_
                      intro _ hw'
                      obtain ⟨x5, rfl⟩ := hw'
                      have hb5 := Lib.hid (below_seq hb4.out x5.h)
                      have ow5 := Lib.hid (own_below ow4.out x5.h)
                      clear l1 l2 l3 l4 l5 l6 l7 l8 l9 l10 l11 hB4 hb4 ow4
                      generalize hyw : x5.w = u5 at *
                      clear hyw x5
                      have zy := hb5.out.size
                      go_wp2_with (first | (at_builtin; refine wpl_append_int rfl _ _ _ rfl (by kernel_rfl) w6.heap.size _ W W.length rfl (ow5.out.alloc _) rfl (by omega) (by simp only [World.size_alloc]; omega) u5.heap.size q rfl (by go_simp) ?_; intro v' w14 hown' hgrow hbel hloc; clear hown'; replace hbel := Lib.hid (hbel w6 (balloc hb5.out _)); clear hgrow hloc ow5) | fail)
                      go_wp2
                      go_roundw
                      case rel => exact ⟨q + 1, _, by omega, by go_num, rfl, .inr ⟨hqm, rfl, rfl⟩, hbel.out⟩
                      case measure => simp [intOf]; omega
                  · obtain rfl : q = k := by omega
                    obtain ⟨hF1, hWL⟩ := e9.out (by omega)
                    obtain rfl : q = L.length := by omega
                    have hK : IntSl wr u WL := by rw [hWL]; exact own_ints hown.out rfl
                    clear e7 e8 e9 hI
                    subst hF1
                    replace hK := Lib.hid hK
                    have g1 : decide ((L.length : Int) < (L.length : Int)) = false := by simp
                    clear hown hEg hwn
                    go_wp2_with fail
                    go_meet
                    exact ⟨rfl, (fun _ => hK.out), (by repeat (first | exact hBr | exact Below.refl _ _ | refine balloc ?_ _ | refine Below.drew ?_ | refine below_drewN ?_ _ | refine below_set ?_ (by first | omega | (dsimp only; omega)) _))⟩
                · obtain ⟨h0, -⟩ := e8.out hkm
                  clear e7 e8 e9 hI hEg hwn
                  have hn : F1 = 0 → ∀ (wx : World) (v : Value), IntSl wx v WL := fun h => by rw [h] at h0; exact absurd h0 (by decide)
                  replace hn := Lib.hid hn
                  by_cases hkl : k + 1 < L.length
                  · have g1 : decide (((k + 1 : Nat) : Int) < (L.length : Int)) = true := by rw [decide_eq_true_iff]; omega
                    go_wp2_with fail
                    go_meet
                    exact ⟨rfl, (fun h => hn.out h _ _), (by repeat (first | exact hBr | exact Below.refl _ _ | refine balloc ?_ _ | refine Below.drew ?_ | refine below_drewN ?_ _ | refine below_set ?_ (by first | omega | (dsimp only; omega)) _))⟩
                  · have g1 : decide (((k + 1 : Nat) : Int) < (L.length : Int)) = false := by rw [decide_eq_false_iff_not]; omega
                    go_wp2_with fail
                    go_meet
                    exact ⟨rfl, (fun h => hn.out h _ _), (by repeat (first | exact hBr | exact Below.refl _ _ | refine balloc ?_ _ | refine Below.drew ?_ | refine below_drewN ?_ _ | refine below_set ?_ (by first | omega | (dsimp only; omega)) _))⟩
          case rest =>
            obtain ⟨w7, hwq⟩ : ∃ x, x = wc := ⟨_, rfl⟩
            subst hwq
            obtain ⟨rfl, hK, hB7⟩ := hcut
            clear h4
            replace hK := Lib.hid hK
            go_upto_if 187 with fail
            go_cut [20] from 188 to 188 (fun s20 wx => IntSl wx s20 WL ∧ Below w.heap.size w wx)
            case first =>
              rcases h5.out with hz | ⟨hz, hz2⟩
              · have hK2 := Lib.hid (hK.out hz)
                subst hz
                clear h5 hK
                go_wp2_with fail
                go_meet
                exact ⟨hK2.out, (by repeat (first | exact hB7 | exact Below.refl _ _ | refine balloc ?_ _ | refine Below.drew ?_ | refine below_drewN ?_ _ | refine below_set ?_ (by first | omega | (dsimp only; omega)) _))⟩
              · subst hz2
                clear h5 hK
                have hz3 : (F1 != 0) = true := by rw [bne, hz]; rfl
                go_wp2_with fail
                go_meet
                exact ⟨(IntSl.noneb _), (by repeat (first | exact hB7 | exact Below.refl _ _ | refine balloc ?_ _ | refine Below.drew ?_ | refine below_drewN ?_ _ | refine below_set ?_ (by first | omega | (dsimp only; omega)) _))⟩
            case rest =>
              obtain ⟨w8, hwq⟩ : ∃ x, x = wc := ⟨_, rfl⟩
              subst hwq
              obtain ⟨hK2, hB8⟩ := hcut
              clear h5 hK
              replace hK2 := Lib.hid hK2
              go_wp2_with fail
              refine (kW.out _ (by repeat (first | exact hB8 | exact Below.refl _ _ | refine balloc ?_ _ | refine Below.drew ?_ | refine below_drewN ?_ _ | refine below_set ?_ (by first | omega | (dsimp only; omega)) _))).mono ?_; rintro e w9 ⟨vx, rfl, hx, hb⟩; replace hK2 := Lib.hid (hK2.out.below hb); replace hx := Lib.hid hx
              obtain ⟨hc9, hf9⟩ := bcell hb
              have z9 := hb.size
              try simp only [World.size_alloc, World.size_setCell, World.size_drew] at z9
              have hB9 : Below w.heap.size w w9 := below_seq (by repeat (first | exact hB8 | exact Below.refl _ _ | refine balloc ?_ _ | refine Below.drew ?_ | refine below_drewN ?_ _ | refine below_set ?_ (by first | omega | (dsimp only; omega)) _)) hb
              clear hb
              go_wp2_with fail
              refine (error_same (errV F1) F1 _ (hE.below (by repeat (first | exact hB9 | exact Below.refl _ _ | refine balloc ?_ _ | refine Below.drew ?_ | refine below_drewN ?_ _ | refine below_set ?_ (by first | omega | (dsimp only; omega)) _))) (Lib.hid rfl)).mono ?_; rintro e w10 ⟨rfl, hb⟩; replace hK2 := Lib.hid (hK2.out.below hb); replace hx := Lib.hid (hx.out.below hb)
              obtain ⟨hc10, hf10⟩ := bcell hb
              have z10 := hb.size
              try simp only [World.size_alloc, World.size_setCell, World.size_drew] at z10
              have hB10 : Below w.heap.size w w10 := below_seq (by repeat (first | exact hB9 | exact Below.refl _ _ | refine balloc ?_ _ | refine Below.drew ?_ | refine below_drewN ?_ _ | refine below_set ?_ (by first | omega | (dsimp only; omega)) _)) hb
              clear hb
              go_wp2_with fail
              refine (ints_same WL _ _ _ hWl.out hx.out hK2.out).mono ?_; rintro e w11 ⟨rfl, hb⟩
              obtain ⟨hc11, hf11⟩ := bcell hb
              have z11 := hb.size
              try simp only [World.size_alloc, World.size_setCell, World.size_drew] at z11
              have hB11 : Below w.heap.size w w11 := below_seq (by repeat (first | exact hB10 | exact Below.refl _ _ | refine balloc ?_ _ | refine Below.drew ?_ | refine below_drewN ?_ _ | refine below_set ?_ (by first | omega | (dsimp only; omega)) _)) hb
              clear hb
              go_wp2
              go_ret
              exact ⟨rfl, (by repeat (first | exact hB11 | exact Below.refl _ _ | refine balloc ?_ _ | refine Below.drew ?_ | refine below_drewN ?_ _ | refine below_set ?_ (by first | omega | (dsimp only; omega)) _))⟩
end Go.Proofs.YtfnifdmnbccblaaDoor
namespace Go.Proofs.YtfnifdmnbccblaaDoor
open Go.RowKit
set_option maxRecDepth 100000
set_option linter.unusedVariables false
set_option linter.unusedSimpArgs false
theorem manyF_0 {a b c : Nat} (h : manyF a b c = 0) : a ≤ 12 ∧ b = a ∧ c = a := by
  unfold manyF at h
  split at h
  · exact absurd h (by decide)
  · split at h
    · rename_i h1 h2; exact ⟨by omega, h2.1.symm, h2.2.symm⟩
    · exact absurd h (by decide)
theorem manyF_eq (n : Nat) (h : n ≤ 12) : manyF n n n = 0 := by unfold manyF; rw [if_neg (by omega), if_pos ⟨rfl, rfl⟩]
theorem mk_it (key R : Sp) (t : ByteArray) (S : Int) : ∃ e, sealF key R S t.size = 0 → It.ok ⟨key, t, R, S, e⟩ := by
  by_cases h : sealF key R S t.size = 0
  · obtain ⟨z0, ok, oR, s0, s1⟩ := sealF_zero h
    obtain ⟨a, -, -, ea⟩ := sq_all ok
    obtain ⟨b, -, -, eb⟩ := sq_all oR
    exact ⟨4 * S + -(b + a * askN R key t.data.toList), fun _ => ⟨a, b, ea, eb, rfl, z0, s0, s1⟩⟩
  · exact ⟨0, fun h' => absurd h' h⟩
theorem mk_items : ∀ (l0 : List Sp) (l1 : List ByteArray) (l2 : List (Sp × Int)), l1.length = l0.length → l2.length = l0.length → ∃ L : List It, L.map (·.key) = l0 ∧ L.map (·.t) = l1 ∧ (L.map fun x => (x.R, x.S)) = l2 ∧ ∀ x ∈ L, sealF x.key x.R x.S x.t.size = 0 → It.ok x
  | [], [], [], _, _ => ⟨[], rfl, rfl, rfl, fun x h => absurd h List.not_mem_nil⟩
  | [], _ :: _, _, h, _ => absurd h (by simp)
  | [], [], _ :: _, _, h => absurd h (by simp)
  | _ :: _, [], _, h, _ => absurd h (by simp)
  | _ :: _, _ :: _, [], _, h => absurd h (by simp)
  | k :: l0, t :: l1, s :: l2, h1, h2 => by
    obtain ⟨L, e0, e1, e2, h⟩ := mk_items l0 l1 l2 (by simpa using h1) (by simpa using h2)
    obtain ⟨e, he⟩ := mk_it k s.1 t s.2
    refine ⟨⟨k, t, s.1, s.2, e⟩ :: L, by simp [e0], by simp [e1], by simp [e2], fun x hx hs => ?_⟩
    rcases List.mem_cons.1 hx with rfl | hx
    · exact he hs
    · exact h x hx hs
theorem first_fail (P : Nat → Prop) : ∀ n, (∀ i, i < n → P i) ∨ ∃ k, k < n ∧ (∀ i, i < k → P i) ∧ ¬ P k
  | 0 => .inl fun i h => absurd h (Nat.not_lt_zero _)
  | n + 1 => by
    rcases first_fail P n with h | ⟨k, hk, h1, h2⟩
    · by_cases hn : P n
      · refine .inl fun i hi => ?_
        by_cases e : i = n
        · subst e; exact hn
        · exact h i (by omega)
      · exact .inr ⟨n, by omega, h, hn⟩
    · exact .inr ⟨k, by omega, h1, h2⟩
theorem bt_good (L : List It) (l3 : List Int) (a0 a1 a2 a3 : Option Addr) (c0 c1 c2 c3 : Nat) (w : World) (hL : FarAt w ∧ ErrAt w) (h12 : L.length ≤ 12) (m3 : l3.length ≤ 9223372036854775807)
    (g0 : SpSl w (.slice a0 L.length c0) (L.map (·.key))) (g1 : StrSl w (.slice a1 L.length c1) (L.map (·.t))) (g2 : SlSl w (.slice a2 L.length c2) (L.map fun x => (x.R, x.S))) (g3 : IntSl w (.slice a3 l3.length c3) l3)
    (hok : ∀ x ∈ L, sealF x.key x.R x.S x.t.size = 0 → It.ok x) (hz : ∀ x ∈ L, x.t.size ≤ 140737488351232) :
    Calls Tryd.prog 5 #[.slice a0 L.length c0, .slice a1 L.length c1, .slice a2 L.length c2, .slice a3 l3.length c3] w fun e w' => e = .returned (.bool true) ∧ Below w.heap.size w w' := by
  have hI : BItems w a0 a1 a2 L := by
    obtain ⟨a, c, he, k⟩ := g0
    obtain ⟨a', c', he', k'⟩ := g1
    obtain ⟨a'', c'', he'', k''⟩ := g2
    simp only [Value.slice.injEq, List.length_map] at he he' he'' k k' k''
    obtain ⟨rfl, -, rfl⟩ := he
    obtain ⟨rfl, -, rfl⟩ := he'
    obtain ⟨rfl, -, rfl⟩ := he''
    exact ⟨k, k', k''⟩
  have hW : 0 < l3.length → ∃ b off, a3 = some ⟨b, off, none⟩ ∧ IntsAt w b off l3 := by
    obtain ⟨a, c, he, k⟩ := g3
    simp only [Value.slice.injEq] at he
    obtain ⟨rfl, -, rfl⟩ := he
    exact k
  have hF0 := manyF_eq L.length h12
  obtain ⟨F1, WL, u1, u2, u3, u4⟩ : ∃ (F1 : Int) (WL : List Int), WL.length ≤ 1000000 ∧
      (∃ k, k ≤ L.length ∧ (∀ i (h : i < L.length), i < k → It.ok L[i]) ∧ (∀ (h : k < L.length), (F1 == 0) = false ∧ sealF L[k].key L[k].R L[k].S L[k].t.size = F1 ∧ L[k].t.size ≤ 140737488351232) ∧ (k = L.length → F1 = 0 ∧ WL = wrongs (L.map (·.e)) L.length)) ∧
      (F1 = 0 ∨ ((F1 == 0) = false ∧ WL = [])) ∧
      (∀ w1 : World, Below w.heap.size w w1 → Calls Tryd.prog 34 #[.slice a0 L.length c0, .slice a1 L.length c1, .slice a2 L.length c2] w1 fun e w' => ∃ v', e = .returned (.tuple #[v', errV F1]) ∧ IntSl w' v' WL ∧ Below w1.heap.size w1 w') := by
    rcases first_fail (fun i => ∀ h : i < L.length, sealF L[i].key L[i].R L[i].S L[i].t.size = 0) L.length with hg | ⟨k, hk, hg, hb⟩
    · have hall : ∀ i (h : i < L.length), It.ok L[i] := fun i h => hok _ (List.getElem_mem h) (hg i h h)
      refine ⟨0, wrongs (L.map (·.e)) L.length, by have := wrongs_len (L.map (·.e)) L.length; omega, ⟨L.length, Nat.le_refl _, fun i h _ => hall i h, fun h => absurd h (Nat.lt_irrefl _), fun _ => ⟨rfl, rfl⟩⟩, .inl rfl, fun w1 hb => ?_⟩
      exact bwrong_e L _ _ _ w1 (hL.1.below hb) h12 hall (g0.below hb) (g1.below hb) (g2.below hb)
    · have hne : sealF L[k].key L[k].R L[k].S L[k].t.size ≠ 0 := fun h => hb fun _ => h
      have hpre : ∀ i (h : i < L.length), i < k → It.ok L[i] := fun i h hik => hok _ (List.getElem_mem h) (hg i hik h)
      refine ⟨_, [], by decide, ⟨k, Nat.le_of_lt hk, hpre, fun h => ⟨by simpa using hne, rfl, hz _ (List.getElem_mem h)⟩, fun e => absurd hk (by omega)⟩, .inr ⟨by simpa using hne, rfl⟩, fun w1 hb' => ?_⟩
      rw [errV, if_neg hne]
      exact (bwrong_nb L _ _ _ _ k w1 (hL.1.below hb') h12 hk hpre (fun h => ⟨rfl, hne, hz _ (List.getElem_mem h)⟩) (g0.below hb') (g1.below hb') (g2.below hb')).mono fun e w' ⟨he, hb2⟩ => ⟨_, he, IntSl.noneb _, hb2⟩
  have kM : ∀ w1 : World, Calls Tryd.prog 25 #[.slice a0 L.length c0, .slice a1 L.length c1, .slice a2 L.length c2] w1 fun e w' => e = .returned (.int .i64 0) ∧ Below w1.heap.size w1 w' := fun w1 => rmany_e L.length L.length L.length a0 a1 a2 c0 c1 c2 0 w1 (by omega) (by omega) (by omega) hF0
  obtain ⟨kk, q1, q2, q3, q4⟩ := u2
  by_cases hn : l3.length = L.length
  · have hb38 : ((l3.length : Int) != (L.length : Int)) = false := by rw [bne_eq_false_iff_eq]; omega
    rcases first_fail (fun i => ∀ (h : i < L.length) (h' : i < l3.length), sealF L[i].key L[i].R L[i].S L[i].t.size = 0 ∧ 1 ≤ l3[i] ∧ l3[i] < 1013) L.length with hg | ⟨k, hk, hg, hb⟩
    · have hall : ∀ i (h : i < L.length), It.ok L[i] := fun i h => hok _ (List.getElem_mem h) (hg i h h (by omega)).1
      have hwo : ∀ i (h : i < l3.length), 1 ≤ l3[i] ∧ l3[i] < 1013 := fun i h => (hg i (by omega) (by omega) h).2
      exact bt_core a0 a1 a2 a3 L.length L.length L.length l3.length c0 c1 c2 c3 w hL.1 hL.2 (by omega) m3 0 0 0 F1 false _ _ WL (Lib.hid u1) (Lib.hid kM) (Lib.hid (.inr ⟨rfl, hb38⟩)) (Lib.hid (.inr ⟨rfl, rfl⟩))
        (Lib.hid (.inr ⟨rfl, L, l3, L.length, rfl, rfl, rfl, hn, h12, hn, hI, fun h => hW (by omega), Nat.le_refl _, fun i h h' _ => ⟨hall i h, hwo i h'⟩, fun h => absurd h (Nat.lt_irrefl _), fun _ => ⟨rfl, rfl⟩⟩))
        (Lib.hid fun w1 hb => bverify_e L l3 _ _ _ _ _ w1 (hL.1.below hb) h12 hn hall hwo (g0.below hb) (g1.below hb) (g2.below hb) (g3.below hb) (Lib.hid rfl)) (Lib.hid (.inl ⟨rfl, rfl⟩))
        (Lib.hid (.inr ⟨rfl, L, kk, rfl, rfl, rfl, h12, hI, q1, q2, q3, q4⟩)) (Lib.hid u3) (Lib.hid u4)
    · have hkw : k < l3.length := by omega
      have hpre : ∀ i (h : i < L.length), i < k → It.ok L[i] := fun i h hik => hok _ (List.getElem_mem h) (hg i hik h (by omega)).1
      have hwo : ∀ i (h : i < l3.length), i < k → 1 ≤ l3[i] ∧ l3[i] < 1013 := fun i h hik => (hg i hik (by omega) h).2
      obtain ⟨E1, hE0, hE1, hbd⟩ : ∃ E1 : Int, E1 ≠ 0 ∧ (E1 == 0) = false ∧ ((sealF L[k].key L[k].R L[k].S L[k].t.size = E1 ∧ L[k].t.size ≤ 140737488351232) ∨ (It.ok L[k] ∧ ¬ (1 ≤ l3[k] ∧ l3[k] < 1013) ∧ E1 = 1)) := by
        by_cases hs : sealF L[k].key L[k].R L[k].S L[k].t.size = 0
        · exact ⟨1, by decide, rfl, .inr ⟨hok _ (List.getElem_mem hk) hs, fun h => hb fun _ _ => ⟨hs, h⟩, rfl⟩⟩
        · exact ⟨_, hs, by simpa using hs, .inl ⟨rfl, hz _ (List.getElem_mem hk)⟩⟩
      exact bt_core a0 a1 a2 a3 L.length L.length L.length l3.length c0 c1 c2 c3 w hL.1 hL.2 (by omega) m3 0 0 E1 F1 false false false WL (Lib.hid u1) (Lib.hid kM) (Lib.hid (.inr ⟨rfl, hb38⟩)) (Lib.hid (.inr ⟨rfl, rfl⟩))
        (Lib.hid (.inr ⟨rfl, L, l3, k, rfl, rfl, rfl, hn, h12, hn, hI, fun h => hW (by omega), Nat.le_of_lt hk, fun i h h' hik => ⟨hpre i h hik, hwo i h' hik⟩, fun _ _ => ⟨hE1, hbd⟩, fun e => absurd hk (by omega)⟩))
        (Lib.hid fun w1 hb' => by
          rw [errV, if_neg hE0]
          exact bverify_nb L l3 _ _ _ _ E1 k w1 (hL.1.below hb') h12 hn hk hpre hwo (fun _ _ => by
            rcases hbd with ⟨h1, h2⟩ | h
            · exact .inl ⟨h1, hE0, h2⟩
            · exact .inr h) (g0.below hb') (g1.below hb') (g2.below hb') (g3.below hb')) (Lib.hid (.inr ⟨hE1, rfl⟩))
        (Lib.hid (.inr ⟨rfl, L, kk, rfl, rfl, rfl, h12, hI, q1, q2, q3, q4⟩)) (Lib.hid u3) (Lib.hid u4)
  · have hb38 : ((l3.length : Int) != (L.length : Int)) = true := by rw [bne_iff_ne]; omega
    exact bt_core a0 a1 a2 a3 L.length L.length L.length l3.length c0 c1 c2 c3 w hL.1 hL.2 (by omega) m3 0 3 3 F1 true false false WL (Lib.hid u1) (Lib.hid kM) (Lib.hid (.inr ⟨rfl, hb38⟩)) (Lib.hid (.inl ⟨rfl, rfl⟩)) (Lib.hid (.inl ⟨rfl, rfl⟩))
      (Lib.hid fun w1 hb => bverify_nw L.length l3.length a0 a1 a2 a3 c0 c1 c2 c3 w1 h12 m3 hn) (Lib.hid (.inr ⟨rfl, rfl⟩))
      (Lib.hid (.inr ⟨rfl, L, kk, rfl, rfl, rfl, h12, hI, q1, q2, q3, q4⟩)) (Lib.hid u3) (Lib.hid u4)
theorem batchTells_law (v0 v1 v2 v3 : Value) (w : World) (o0 : SpotsV w v0) (o1 : StrsV w v1) (o2 : ∃ l : List (Sp × Int), SlSl w v2 l ∧ l.length ≤ 9223372036854775807) (o3 : IntsV w v3) (hL : FarAt w ∧ ErrAt w) :
    Calls Tryd.prog 5 #[v0, v1, v2, v3] w fun e w' => e = .returned (.bool true) ∧ Below w.heap.size w w' := by
  obtain ⟨l0, g0, m0⟩ := o0.sl
  obtain ⟨l1, g1, m1, z1⟩ := o1
  obtain ⟨l2, g2, m2⟩ := o2
  obtain ⟨l3, g3, m3, -⟩ := o3.sl
  obtain ⟨a0, c0, rfl, k0⟩ := id g0
  obtain ⟨a1, c1, rfl, k1⟩ := id g1
  obtain ⟨a2, c2, rfl, k2⟩ := id g2
  obtain ⟨a3, c3, rfl, k3⟩ := id g3
  by_cases hF0 : manyF l0.length l1.length l2.length = 0
  · obtain ⟨h12, e1, e2⟩ := manyF_0 hF0
    obtain ⟨L, rfl, rfl, rfl, hok⟩ := mk_items l0 l1 l2 e1 e2
    simp only [List.length_map] at g0 g1 g2 h12 ⊢
    exact bt_good L l3 a0 a1 a2 a3 c0 c1 c2 c3 w hL h12 m3 g0 g1 g2 g3 hok (fun x hx => z1 _ (List.mem_map.mpr ⟨x, hx, rfl⟩))
  · obtain ⟨F0, hF⟩ : ∃ F0, manyF l0.length l1.length l2.length = F0 := ⟨_, rfl⟩
    rw [hF] at hF0
    have hF1 : (F0 == 0) = false := by simpa using hF0
    exact bt_core a0 a1 a2 a3 l0.length l1.length l2.length l3.length c0 c1 c2 c3 w hL.1 hL.2 m0 m3 F0 F0 F0 F0 false false false [] (Lib.hid (by decide)) (Lib.hid fun w1 => rmany_e _ _ _ a0 a1 a2 c0 c1 c2 F0 w1 m0 m1 m2 hF) (Lib.hid (.inl ⟨hF1, rfl⟩)) (Lib.hid (.inr ⟨rfl, rfl⟩)) (Lib.hid (.inl ⟨hF1, rfl⟩))
      (Lib.hid fun w1 _ => by rw [errV, if_neg hF0]; exact bverify_nr _ _ _ a0 a1 a2 c0 c1 c2 _ F0 w1 m0 m1 m2 hF hF0) (Lib.hid (.inr ⟨hF1, rfl⟩)) (Lib.hid (.inl ⟨hF1, rfl⟩)) (Lib.hid (.inr ⟨hF1, rfl⟩))
      (Lib.hid fun w1 _ => by rw [errV, if_neg hF0]; exact (bwrong_nr _ _ _ a0 a1 a2 c0 c1 c2 F0 w1 m0 m1 m2 hF hF0).mono fun e w' ⟨he, hb2⟩ => ⟨_, he, IntSl.noneb _, hb2⟩)
end Go.Proofs.YtfnifdmnbccblaaDoor
namespace Go.Proofs.YtfnifdmnbccblaaDoor
open Go.ChangeShapes Go.WideShapes Go.ChangeAt Go.WideMaps Go.WideElems Go.RowKit
set_option maxRecDepth 100000
abbrev farLaid : List (String × DataW Unit) := [("pairstone/curve.Far", Rows.laid_pairstone_curve_Far)]
theorem gFar : Tryd.prog.globalNamed "pairstone/curve.Far" = some 0 := by kernel_rfl
theorem tFar : (Tryd.prog.globals[0]?).map (·.type) = some 25 := by kernel_rfl
/-- The door's own heap meets the condition. -/
theorem farLaid_met (os : Os) (args : Array Value) : laidMetH Tryd.prog farLaid ((World.doorLaid Tryd.prog 400 os).forCall (fun _ _ => 0) ⟨#[], args, []⟩).memory :=
  laidMetH_of_parts3 (fuel := 8) (laidMet_of_run' 8 (by kernel_rfl) (by kernel_rfl)) (by kernel_rfl) (by kernel_rfl)
theorem lt_of_cell {w : World} {b o : Nat} {v : Value} (h : w.cell? ⟨b, o, none⟩ = some v) : b < w.heap.size := by
  rcases Nat.lt_or_ge b w.heap.size with h1 | h1
  · exact h1
  · simp [World.cell?, Array.getElem?_eq_none h1] at h
theorem farLaid_at {W : World} (h : laidMetH Tryd.prog farLaid W) : FarAt W := by
  rw [MakeChecks.laidMetH_plain _ _ _ (by kernel_rfl)] at h
  obtain ⟨ps, ⟨g0, t0, cs0, f0, p0, q0, hg0, ht0, hv0, hd0, _, _⟩, _, _⟩ := h
  obtain rfl := Option.some.inj (gFar.symm.trans hg0)
  obtain rfl := Option.some.inj (tFar.symm.trans ht0)
  obtain ⟨y0, y1, y2, n, hx, hlen, h0, h1, h2⟩ := Deep.trod_struct3 Tryd.underlying25 hd0
  simp only [Rows.laid_pairstone_curve_Far, Prod.mk.injEq, DataW.agg.injEq, List.cons.injEq, and_true] at hx
  obtain ⟨⟨e0, e1, e2⟩, _⟩ := hx
  obtain ⟨a, c0, rfl, _⟩ := DataW.trod_int Tryd.underlying3 h0
  obtain ⟨b, c1, rfl, _⟩ := DataW.trod_int Tryd.underlying3 h1
  obtain ⟨f, c2, rfl⟩ := DataW.trod_bool Tryd.underlying4 h2
  have k3 : Tryd.prog.cellsOf 25 = 3 := by kernel_rfl
  have ki : Tryd.prog.cellsOf 3 = 1 := by kernel_rfl
  have kb : Tryd.prog.cellsOf 4 = 1 := by kernel_rfl
  obtain ⟨l⟩ := cs0
  have h3 : l.length = 3 := by simpa using hlen.trans k3
  match l, h3 with
  | [x, y, z], _ =>
    simp [ki, kb] at c0 c1 c2
    subst c0 c1 c2
    have v0 := World.var?_cell hg0 hv0 0
    have v1 := World.var?_cell hg0 hv0 1
    have v2 := World.var?_cell hg0 hv0 2
    simp at e0 e1 e2 v0 v1 v2
    subst e0 e1 e2
    exact ⟨v0, v1, v2, lt_of_cell v0⟩
end Go.Proofs.YtfnifdmnbccblaaDoor
namespace Go.Proofs.YtfnifdmnbccblaaDoor
open Go.ChangeShapes Go.WideShapes Go.ChangeAt Go.WideMaps Go.WideElems Go.RowKit
set_option maxRecDepth 100000
theorem gErr : Tryd.prog.globalNamed "errors.errorType" = some 2 := by kernel_rfl
theorem cutR : (Tryd.prog.cutTypes.find? (·.1 == "internal/reflectlite.rtype")).map (·.2) = some 183 := by kernel_rfl
theorem rowError : ((List.range Tryd.prog.types.size).filter fun t => Tryd.prog.rowNamed t [101, 114, 114, 111, 114]) = [27] := by kernel_rfl
/-- What the condition on the variable says of its cell. -/
theorem err_of_handles {l : List (String × DataW Unit)} {W : World} (h : handlesMet Tryd.prog l W) (hm : ("errors.errorType", Rows.laid_errors_errorType) ∈ l) : ErrAt W := by
  obtain ⟨name, u, ty, e1, e2, e3, e4, e5⟩ := h _ hm
  have en : name = [101, 114, 114, 111, 114] := (Option.some.inj e1).symm
  subst en
  obtain rfl := Option.some.inj (cutR.symm.trans e2)
  have hm : ty ∈ (List.range Tryd.prog.types.size).filter fun t => Tryd.prog.rowNamed t [101, 114, 114, 111, 114] := List.mem_filter.2 ⟨List.mem_range.2 e3, e4⟩
  rw [rowError] at hm
  obtain rfl := List.mem_singleton.1 hm
  have hh : typeHandle Tryd.prog 27 = .pointer (some ⟨3, 27, none⟩) := by kernel_rfl
  rw [hh] at e5
  have v := World.var?_cell gErr e5 0
  simp at v
  exact ⟨v, lt_of_cell v⟩
abbrev errLaid : List (String × DataW Unit) := [("errors.errorType", Rows.laid_errors_errorType)]
abbrev farErrLaid : List (String × DataW Unit) := [("pairstone/curve.Far", Rows.laid_pairstone_curve_Far), ("errors.errorType", Rows.laid_errors_errorType)]
theorem errLaid_met (os : Os) (args : Array Value) : laidMetH Tryd.prog errLaid ((World.doorLaid Tryd.prog 400 os).forCall (fun _ _ => 0) ⟨#[], args, []⟩).memory :=
  laidMetH_of_parts ⟨[], rfl, List.nodup_nil, fun _ _ h => by cases h⟩ (by kernel_rfl)
theorem farErrLaid_met (os : Os) (args : Array Value) : laidMetH Tryd.prog farErrLaid ((World.doorLaid Tryd.prog 400 os).forCall (fun _ _ => 0) ⟨#[], args, []⟩).memory :=
  laidMetH_of_parts (laidMet_of_run' 8 (by kernel_rfl) (by kernel_rfl)) (by kernel_rfl)
theorem errLaid_at {W : World} (h : laidMetH Tryd.prog errLaid W) : ErrAt W := by
  have h' : laidMet Tryd.prog [] W ∧ handlesMet Tryd.prog errLaid W := h
  exact err_of_handles h'.2 (by simp)
theorem farErrLaid_at {W : World} (h : laidMetH Tryd.prog farErrLaid W) : FarAt W ∧ ErrAt W := by
  have h' : laidMet Tryd.prog farLaid W ∧ handlesMet Tryd.prog errLaid W := h
  exact ⟨farLaid_at (by rw [MakeChecks.laidMetH_plain _ _ _ (by kernel_rfl)]; exact h'.1), err_of_handles h'.2 (by simp)⟩
end Go.Proofs.YtfnifdmnbccblaaDoor
namespace Go.Proofs.YtfnifdmnbccblaaDoor
open Go.RowKit
set_option maxRecDepth 100000
theorem headL : ∃ l : List Char, Tryd.prog.initOrder = String.ofList l ∧ ((behindMainWord (wordsSigns l)).head? = some "cut".toList ∧
    (match wordsSigns l with
      | h :: s :: _ => if !isSumSigns s then none else if h == "harness".toList then some (true, s) else if h == "ownmain".toList then some (false, s) else none
      | _ => none) = some (true, "8bff7fe31cad154e1d9054f52751277758ee41cf373a73bb2e4a30f27c527906".toList)) := by
  refine ⟨?l, ?h1, ?h2, ?h3⟩
  case h1 =>
    unfold Tryd.prog
    first | rfl | (dsimp only; rfl)
  case h2 => kernel_rfl
  case h3 => kernel_rfl
theorem headCut : ∃ r, behindMainWord (wordsSigns Tryd.prog.initOrder.toList) = "cut".toList :: r := by
  obtain ⟨l, h, hw, -⟩ := headL
  rw [h, String.toList_ofList]
  cases e : behindMainWord (wordsSigns l) with
  | nil => rw [e] at hw; cases hw
  | cons c r => rw [e] at hw; exact ⟨r, by rw [Option.some.inj hw]⟩
theorem mainIsK : Tryd.prog.mainIs = some (true, "8bff7fe31cad154e1d9054f52751277758ee41cf373a73bb2e4a30f27c527906".toList) := by
  obtain ⟨l, h, -, hm⟩ := headL
  unfold Program.mainIs; rw [h, String.toList_ofList]; exact hm
theorem mayEnterK : Tryd.prog.mayEnter = true := by
  obtain ⟨r, h⟩ := headCut
  unfold Program.mayEnter; rw [h]; kernel_rfl
theorem headLiftsK : Tryd.prog.headLifts = [] := by
  obtain ⟨r, h⟩ := headCut
  unfold Program.headLifts; rw [h]; kernel_rfl
theorem liftsFinalK : Tryd.prog.liftsFinal = false := by
  obtain ⟨r, h⟩ := headCut
  unfold Program.liftsFinal; rw [h, headLiftsK]; kernel_rfl
theorem makeK : Tryd.prog.make = some .cut := by
  obtain ⟨r, h⟩ := headCut
  unfold Program.make; rw [h]; kernel_rfl
end Go.Proofs.YtfnifdmnbccblaaDoor
namespace Go.Proofs.YtfnifdmnbccblaaDoor.batchTells
open Go.ChangeShapes Go.WideShapes Go.ChangeAt Go.RowKit
set_option linter.unusedVariables false
theorem typesOk : ([34, 23, 49, 22].all fun t => Tryd.prog.readableRec t && decide (t < Tryd.prog.types.size)) = true := by kernel_rfl
set_option maxRecDepth 100000 in
theorem lifted (os : Os) (started : os.Started) (H : Type) (enc : TypeId × Value → H) :
    ReturnsInHanded {} Tryd.checked os 5 .any (fun w args => (Rows.batchTellsSpec.pre enc Tryd.prog Tryd.f5 [] false w args ∧ laidMetH Tryd.prog farErrLaid w) ∧ sizedMet enc Tryd.prog Tryd.f5 (OpenSpec.ofChange Rows.batchTellsSpec) false w args)
      (Rows.batchTellsSpec.post enc Tryd.prog Tryd.f5 false true false false) := by
  refine returnsInHanded_of_change_and (C := Tryd.checked) (X := fun w _ => laidMetH Tryd.prog farErrLaid w) (fun _ _ _ hh h => h.of_heap hh) Tryd.ownK started (by kernel_rfl) Tryd.func5
    (ChangeSpec.witness_shaped (enc := enc) (C := Tryd.checked) (os := os) (X := fun w _ => laidMetH Tryd.prog farErrLaid w) false (World.doorLaid Tryd.prog 400 os) #[.slice none 0 0, .slice none 0 0, .slice none 0 0, .slice none 0 0] 8 rfl (World.shaped_of_RefB (by kernel_rfl) (by kernel_rfl)) (by kernel_rfl) (by kernel_rfl) (by kernel_rfl) (farErrLaid_met os _)) ?_
  intro W base args ds gs before hval0 hW hcnd hsz0 hL hholds
  have hval : ∀ (j : Nat) t v, Tryd.f5.params[j]? = some t → args[j]? = some v → Value.okWide Tryd.prog W .any base t v := hval0
  have hW' := hW
  obtain ⟨p, q, hA0, hV, rfl, hfz, hnd⟩ := hW
  have hA : DataW.TrodAll enc Tryd.prog W 0 (fun _ => true) true Tryd.f5.params.toList args.toList ds p := hA0
  obtain ⟨rfl, rfl⟩ := trodVars_none hV
  simp only [List.append_nil] at hW'
  have hlt : ∀ x ∈ p, x.block < W.heap.size := fun x hx => hW'.lt x hx
  have hsz : (DataW.weightsEach Tryd.prog (Tryd.f5.params.toList ++ Rows.batchTellsSpec.plain.varTypes Tryd.prog) (ds ++ [])).all (· ≤ reachBytes) = true := hsz0
  rw [Tryd.params5] at hA hval hsz
  have hK := hA
  obtain ⟨v0, vs0, d0, ds0, p0, q0, hargs, rfl, rfl, h0, r0⟩ := trodAll_cons hA
  obtain ⟨v1, vs1, d1, ds1, p1, q1, rfl, rfl, rfl, h1, r1⟩ := trodAll_cons r0
  obtain ⟨v2, vs2, d2, ds2, p2, q2, rfl, rfl, rfl, h2, r2⟩ := trodAll_cons r1
  obtain ⟨v3, vs3, d3, ds3, p3, q3, rfl, rfl, rfl, h3, r3⟩ := trodAll_cons r2
  obtain ⟨rfl, rfl, rfl⟩ := trodAll_nil r3
  obtain rfl : args = #[v0, v1, v2, v3] := by cases args; simp_all
  have o0 := open_spots Tryd.underlying34 Tryd.underlying25 (by kernel_rfl) (by kernel_rfl) Tryd.underlying3 Tryd.underlying3 Tryd.underlying4 (hval 0 34 v0 rfl rfl) h0
  have o1 := open_strl Tryd.underlying23 Tryd.underlying9 (by kernel_rfl) (hval 1 23 v1 rfl rfl) h1 hsz (j := 1) rfl rfl
  have o2 := open_seals Tryd.underlying49 Tryd.underlying53 (by kernel_rfl) rfl rfl (by kernel_rfl) (by kernel_rfl) Tryd.underlying25 (by kernel_rfl) Tryd.underlying3 Tryd.underlying3 Tryd.underlying4 Tryd.underlying3 (hval 2 49 v2 rfl rfl) h2
  have o3 := open_intl Tryd.underlying22 Tryd.underlying3 (by kernel_rfl) (hval 3 22 v3 rfl rfl) h3
  clear hA0 hval0
  refine (batchTells_law v0 v1 v2 v3 W o0 o1 o2 o3 (farErrLaid_at hL)).mono fun e W' ⟨he, hg⟩ => ?_
  subst he
  exact ⟨_, rfl, post_of_below (pa := _) (pv := []) hW' (fun _ _ _ => (trodAll_cons_mk (shut_bool Tryd.underlying4 _) trodAll_mk0)) (fun sp hsp => trodAll_stays Tryd.laidOutK hg typesOk hK (fun x hx => ⟨hlt x hx, hsp x (by first | exact hx | (simp at hx) | simpa using hx)⟩)) (fun _ _ => rfl) (by simp) hg (ok_one (by kernel_rfl) rfl (okWide_bool_mk Tryd.underlying4 _))⟩

theorem over : Rows.batchTellsRow.holds Tryd.pinned (OpenSpec.ofChange Rows.batchTellsSpec) :=
  OpenClaim.holds_of_wide 5 Tryd.f5 rfl rfl rfl rfl rfl rfl rfl ⟨rfl, rfl, rfl, rfl, rfl⟩ rfl rfl rfl rfl rfl (by kernel_rfl) Tryd.func5 (by show joinedFacts Tryd.prog _ _ _ _ = true; unfold joinedFacts; rw [mayEnterK, liftsFinalK, makeK]; kernel_rfl)
    (of_decide_eq_true (by kernel_rfl)) (by unfold Func.isWrapper; first | (rw [if_pos (by decide +kernel)]; kernel_rfl) | (rw [if_neg (by decide +kernel)]; exact ⟨rfl, rfl⟩))
    (fun os started H enc _ => lifted os started H enc)
theorem card : Rows.BatchTellsCardSaid :=
  Claim7.holds_tied_plain_at .later [] [.data, .handle] true (true, "8bff7fe31cad154e1d9054f52751277758ee41cf373a73bb2e4a30f27c527906") true
    over (fun _ h => by cases h) (by kernel_rfl) (fun _ h => by cases h) batchTells_row_tie rfl ⟨rfl, rfl⟩ mainIsK rfl
    (fun f fn hf hfn => by
      obtain rfl : f = 5 := Option.some.inj ((show Tryd.prog.funcNamed "pairstone/stonelaw3.BatchTells" = some 5 by kernel_rfl).symm.trans hf) |>.symm
      obtain rfl : fn = Tryd.f5 := (Option.some.inj (Tryd.func5.symm.trans hfn)).symm
      exact ⟨by kernel_rfl, fun j t ht => by
        rw [Tryd.params5] at ht
        have hm : t ∈ ([34, 23, 49, 22] : List TypeId) := by simpa using Array.mem_of_getElem? ht
        have hall : (([34, 23, 49, 22] : List TypeId).all fun u => !Tryd.prog.wantsStandIn u) = true := by kernel_rfl
        exact (show Tryd.prog.wantsStandIn t = false by simpa using List.all_eq_true.1 hall t hm)⟩)
    (by kernel_rfl)
#print axioms card
end Go.Proofs.YtfnifdmnbccblaaDoor.batchTells
