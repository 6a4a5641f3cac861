/- The statement of RingTells: for every input the law returns true, and the arguments read as they did. (its listed variable reads as laid; the card ties it) -/
import Derived.Test.YtfnifdmnbccblaaDoorFr
import Derived.Test.YtfnifdmnbccblaaDoorFs
import Derived.Test.YtfnifdmnbccblaaDoorWb
import Derived.Test.YtfnifdmnbccblaaDoorWv
import Derived.LaidEql
import Derived.Stop.Asserts
import Derived.RowKitTokens
import Derived.Test.YtfnifdmnbccblaaDoorMRingTells
import Derived.Laws.Entries
import Derived.Deep.DeepCutAuto
import Derived.Deep.CutBlock
import Derived.Test.YtfnifdmnbccblaaDoorRows
import Derived.ProofKit
import Derived.LaidMore
import Derived.OpenShut
import Derived.MakeChecks
import Derived.Deep.Strs
import Derived.LaidHandle
import Derived.SizedLaws
import Derived.Test.YtfnifdmnbccblaaDoorTie
import Derived.Test.YtfnifdmnbccblaaDoorCards
import Derived.SevenTiedAt
namespace Go.Proofs.YtfnifdmnbccblaaDoor
open Go.RowKit Go.WideShapes Go.ChangeShapes
section
variable {H : Type} {enc : TypeId × Value → H} {P : Program} {w : World} {base : Nat} {spare : Nat → Bool} {held : Bool}
open Go.Joins Go.Deep
theorem open_ringed {r : Reach} {b0 : Nat} {t e : TypeId} {f0 f1 : Field} {v : Value} {d : DataW H} {p : List MemPlace} (hs : P.underlying t = some (.struct #[f0, f1])) (hone : oneCellFields P #[f0, f1] = true) (hC : P.cellsOf t = 2)
    (h0 : P.underlying f0.type = some (.int .i64)) (h1 : P.underlying f1.type = some (.slice e)) (he : P.underlying e = some (.int .i64)) (hc : P.cellsOf e = 1) (hv : Value.okWide P w r b0 t v) (h : DataW.Trod enc P w base spare held t v d p) :
    ∃ (a : Int) (u : Value), v = .agg #[.int .i64 a, u] ∧ (Lit.int .i64 a).wf = true ∧ IntsV w u := by
  obtain ⟨c0, c1, y0, y1, m, rfl, rfl, rfl, hy0, hy1⟩ := open_agg2 hs hone hC hv h
  obtain ⟨a, e0, rfl, wa⟩ := DataW.trod_int h0 hy0
  simp at e0
  subst e0
  refine ⟨a, c1, rfl, wa, ?_⟩
  rcases ChangeShapes.open_ints h1 he hc hy1 with ⟨hn, -⟩ | ⟨a', len, cap, zs, hcs, hb, hl, hm, hzl, hx, hcell, hw⟩
  · simp at hn; subst hn; exact .inl ⟨_, _, rfl⟩
  · simp at hcs; subst hcs
    by_cases hz : len = 0
    · subst hz; exact .inl ⟨_, _, rfl⟩
    have hlm : len ≤ zs.length := by rw [hzl]; split <;> omega
    obtain ⟨b, off, sp⟩ := a'
    obtain rfl : sp = none := spotless (b := b) (off := off) (by simpa [Addr.add] using hcell 0 (by omega))
    simp only [add_none] at hcell
    have ht : (zs.take len).length = len := by rw [List.length_take]; omega
    refine .inr ⟨b, off, cap, zs.take len, by rw [ht], by omega, by omega, ⟨World.block_lt_of_cell? w _ (hcell 0 (by omega)), fun i hi => ?_⟩, fun n hn => hw n (List.mem_of_mem_take hn)⟩
    have := hcell i (by omega)
    rw [this, List.getElem_take, List.getD_eq_getElem?_getD, List.getElem?_eq_getElem (by omega)]; rfl
end
end Go.Proofs.YtfnifdmnbccblaaDoor
namespace Go.Proofs.YtfnifdmnbccblaaDoor
open Go.RowKit Go.Extern.Stop Go.Stop Go.Extern
set_option maxRecDepth 100000
set_option linter.unusedVariables false
set_option linter.unusedSimpArgs false
/-- The variable errors.errorType reads as laid. -/
def ErrAt (w : World) : Prop := w.cell? ⟨2, 0, none⟩ = some (.iface 183 (.agg #[.pointer (some ⟨3, 27, none⟩)])) ∧ 2 < w.heap.size
theorem ErrAt.below {w w' : World} (h : ErrAt w) (hb : Below w.heap.size w w') : ErrAt w' := ⟨((bcell hb).1 _ _ h.2).trans h.1, Nat.lt_of_lt_of_le h.2 hb.size⟩
/-! The model's entries for reflectlite, at this program's types. -/
theorem rl_value (t : Addr) (w : World) : (ReflectliteValue.unpack (.iface 161 (.pointer (some t)))).run Tryd.prog w
    = .ok (.agg #[.pointer (some ⟨3, 161, none⟩), .pointer (some ⟨w.heap.size, 0, none⟩), .int .u64 150]) (w.alloc (.cells #[.pointer (some t)] 161)) := by kernel_rfl
theorem rl_type (a : Addr) (w : World) : (ReflectliteValue.methodAny (ReflectliteValue.valueError "reflectlite.Value.Type" 0) (fun t _ _ _ => ReflectliteType.toType t) #[.agg #[.pointer (some ⟨3, 161, none⟩), .pointer (some a), .int .u64 150]]).run Tryd.prog w
    = .ok (.iface 183 (.agg #[.pointer (some ⟨3, 161, none⟩)])) w := by kernel_rfl
theorem rl_kindm (h : Value) (w : World) : (Go.method 326 183 (.agg #[h]) "Kind").run Tryd.prog w = .ok (166, h) w := by kernel_rfl
theorem rl_kind (w : World) : ((ReflectliteType.abiMethod fun t => Functor.map (fun a : Nat => Value.int IntKind.u8 (a : Int)) (Rtype.kind t)) #[.pointer (some ⟨3, 161, none⟩)]).run Tryd.prog w = .ok (.int .u8 22) w := by kernel_rfl
theorem rl_kinde (w : World) : ((ReflectliteType.abiMethod fun t => Functor.map (fun a : Nat => Value.int IntKind.u8 (a : Int)) (Rtype.kind t)) #[.pointer (some ⟨3, 118, none⟩)]).run Tryd.prog w = .ok (.int .u8 2) w := by kernel_rfl
theorem rl_m (z : Sem Value) (f : TypeId → Addr → Nat → Nat → Sem Value) (v : Value) :
    ReflectliteValue.method z f #[v] = (do match ← ReflectliteValue.parts v with | none => z | some (t, a, fl) => f t a fl (fl % 32)) := rfl
theorem rl_parts (a : Addr) (w : World) : (ReflectliteValue.parts (.agg #[.pointer (some ⟨3, 161, none⟩), .pointer (some a), .int .u64 150])).run Tryd.prog w = .ok (some (161, a, 150)) w := by kernel_rfl
theorem rl_nil (a p : Addr) (W : World) (ha : W.cell? a = some (.pointer (some p))) :
    (ReflectliteValue.method (ReflectliteValue.valueError "reflectlite.Value.IsNil" 0) ReflectliteValue.isNil #[.agg #[.pointer (some ⟨3, 161, none⟩), .pointer (some a), .int .u64 150]]).run Tryd.prog W = .ok (.bool false) W := by
  rw [rl_m]
  simp only [Sem.run_bind, rl_parts, Result.andThen]
  simp [ReflectliteValue.isNil, loadVar, isAgg, underlying, Tryd.underlying161, ha, Result.andThen]
theorem rl_elemm (h : Value) (w : World) : (Go.method 326 183 (.agg #[h]) "Elem").run Tryd.prog w = .ok (177, .agg #[h]) w := by kernel_rfl
theorem rl_implm (h : Value) (w : World) : (Go.method 326 183 (.agg #[h]) "Implements").run Tryd.prog w = .ok (178, .agg #[h]) w := by kernel_rfl
theorem rl_assm (h : Value) (w : World) : (Go.method 326 183 (.agg #[h]) "AssignableTo").run Tryd.prog w = .ok (175, .agg #[h]) w := by kernel_rfl
theorem rl_elem (w : World) : (ReflectliteType.method ReflectliteType.elem #[.agg #[.pointer (some ⟨3, 161, none⟩)]]).run Tryd.prog w = .ok (.iface 183 (.agg #[.pointer (some ⟨3, 118, none⟩)])) w := by kernel_rfl
theorem rl_impl (w : World) : (ReflectliteType.relation "Implements" ReflectliteType.implements_ #[.agg #[.pointer (some ⟨3, 118, none⟩)], .iface 183 (.agg #[.pointer (some ⟨3, 27, none⟩)])]).run Tryd.prog w = .ok (.bool true) w := by kernel_rfl
theorem rl_typeof (v : Value) (w : World) : (ReflectliteType.typeOf #[.iface 118 v]).run Tryd.prog w = .ok (.iface 183 (.agg #[.pointer (some ⟨3, 118, none⟩)])) w := by kernel_rfl
theorem rl_ass (w : World) : (ReflectliteType.relation "AssignableTo" ReflectliteType.assignableTo #[.agg #[.pointer (some ⟨3, 118, none⟩)], .iface 183 (.agg #[.pointer (some ⟨3, 118, none⟩)])]).run Tryd.prog w = .ok (.bool true) w := by kernel_rfl
theorem rl_valuee (k : Int) (w : World) : (ReflectliteValue.unpack (.iface 118 (.int .i64 k))).run Tryd.prog w
    = .ok (.agg #[.pointer (some ⟨3, 118, none⟩), .pointer (some ⟨w.heap.size, 0, none⟩), .int .u64 130]) (w.alloc (.cells #[.int .i64 k] 118)) := by kernel_rfl
theorem rl_elemof (w : World) : (Rtype.elem? 161).run Tryd.prog w = .ok (some 118) w := by kernel_rfl
theorem rl_mk (p : Addr) (w : World) : (ReflectliteValue.mk 118 p ReflectliteValue.flagAddr).run Tryd.prog w = .ok (.agg #[.pointer (some ⟨3, 118, none⟩), .pointer (some p), .int .u64 386]) w := by kernel_rfl
theorem rl_elemv (a p : Addr) (W : World) (ha : W.cell? a = some (.pointer (some p))) :
    (ReflectliteValue.method (ReflectliteValue.valueError "reflectlite.Value.Elem" 0) ReflectliteValue.elem #[.agg #[.pointer (some ⟨3, 161, none⟩), .pointer (some a), .int .u64 150]]).run Tryd.prog W
      = .ok (.agg #[.pointer (some ⟨3, 118, none⟩), .pointer (some p), .int .u64 386]) W := by
  rw [rl_m]
  simp only [Sem.run_bind, rl_parts, Result.andThen]
  simp [ReflectliteValue.elem, loadVar, isAgg, underlying, Tryd.underlying161, ha, Result.andThen, rl_elemof, rl_mk]
theorem rl_s (v x : Value) : ReflectliteValue.set #[v, x] = (do
    let (some (dst, a, fl), some (src, b, _)) := (← ReflectliteValue.parts v, ← ReflectliteValue.parts x)
      | unsupported (.noEntry "extern/(internal/reflectlite.Value).Set.zeroValue")
    if fl / ReflectliteValue.flagAddr % 2 == 0 then unsupported (.noEntry "extern/(internal/reflectlite.Value).Set.unaddressable")
    let val ← loadVar src b
    if ← Rtype.directlyAssignable dst src then storeVar dst a val
    else if ← Rtype.implements dst src then
      if (← Rtype.kind src) == 20 then
        match val with
        | .nilIface => unsupported (.noEntry "extern/reflectlite: a nil value of one interface type handed on as a value of another")
        | _ => storeVar dst a val
      else storeVar dst a (.iface src val)
    else panicString ("reflectlite.Set: value of type " ++ (← Rtype.spelt src) ++ " is not assignable to type " ++ (← Rtype.spelt dst))
    pure (.tuple #[])) := rfl
theorem rl_partsa (a : Addr) (w : World) : (ReflectliteValue.parts (.agg #[.pointer (some ⟨3, 118, none⟩), .pointer (some a), .int .u64 386])).run Tryd.prog w = .ok (some (118, a, 386)) w := by kernel_rfl
theorem rl_partse (a : Addr) (w : World) : (ReflectliteValue.parts (.agg #[.pointer (some ⟨3, 118, none⟩), .pointer (some a), .int .u64 130])).run Tryd.prog w = .ok (some (118, a, 130)) w := by kernel_rfl
theorem rl_direct (w : World) : (Rtype.directlyAssignable 118 118).run Tryd.prog w = .ok true w := by kernel_rfl
theorem rl_set (ta b : Addr) (k : Int) (old : Value) (W : World) (hb : W.cell? b = some (.int .i64 k)) (ht : W.cell? ta = some old) (hf : W.frozen? ta = false) :
    (ReflectliteValue.set #[.agg #[.pointer (some ⟨3, 118, none⟩), .pointer (some ta), .int .u64 386], .agg #[.pointer (some ⟨3, 118, none⟩), .pointer (some b), .int .u64 130]]).run Tryd.prog W
      = .ok (.tuple #[]) (W.setCell ta (.int .i64 k)) := by
  rw [rl_s]
  simp only [Sem.run_bind, rl_partsa, rl_partse, Result.andThen]
  simp [ReflectliteValue.flagAddr, loadVar, isAgg, underlying, Tryd.underlying118, hb, Result.andThen, rl_direct, storeVar, Value.cells, storeCells, Addr.add]
  rw [run_store Tryd.prog W ta _ _ (by rfl)]
  simp [ht, hf]
set_option maxHeartbeats 4000000 in
theorem as_hit (k : Int) (t : Addr) (old : Value) (w : World) (hg : w.cell? ⟨2, 0, none⟩ = some (.iface 183 (.agg #[.pointer (some ⟨3, 27, none⟩)]))) (hgl : 2 < w.heap.size) (ht0 : w.cell? t = some old) (hf0 : w.frozen? t = false) :
    Calls Tryd.prog 134 #[.iface 118 (.int .i64 k), .iface 161 (.pointer (some t))] w fun ev w' => ev = .returned (.bool true) ∧ w' = ((((w.alloc (.cells #[.pointer (some t)] 161)).alloc (.cells #[.pointer (some ⟨3, 161, none⟩), .pointer (some ⟨w.heap.size, 0, none⟩), .int .u64 150] 172)).alloc (.cells #[.pointer (some ⟨3, 161, none⟩), .pointer (some ⟨w.heap.size, 0, none⟩), .int .u64 150] 172)).alloc (.cells #[.int .i64 k] 118)).setCell t (.int .i64 k) := by
  have h6 := @run_callFunc_extern Tryd.prog 144 _ (fun args => ReflectliteValue.unpack (args.getD 0 (.tuple #[]))) Tryd.func144 (by kernel_rfl) (by kernel_rfl) (by kernel_rfl) (by kernel_rfl)
  have h7 := @run_callFunc_extern Tryd.prog 145 _ (ReflectliteValue.methodAny (ReflectliteValue.valueError "reflectlite.Value.Type" 0) (fun t _ _ _ => ReflectliteType.toType t)) Tryd.func145 (by kernel_rfl) (by kernel_rfl) (by kernel_rfl) (by kernel_rfl)
  have h8 := @run_callFunc_extern Tryd.prog 146 _ (ReflectliteValue.method (ReflectliteValue.valueError "reflectlite.Value.IsNil" 0) ReflectliteValue.isNil) Tryd.func146 (by kernel_rfl) (by kernel_rfl) (by kernel_rfl) (by kernel_rfl)
  have h27 := @run_callFunc_extern Tryd.prog 166 _ (ReflectliteType.abiMethod fun t => do pure (.int .u8 (← Rtype.kind t))) Tryd.func166 (by kernel_rfl) (by kernel_rfl) (by kernel_rfl) (by kernel_rfl)
  have h37 := @run_callFunc_extern Tryd.prog 177 _ (ReflectliteType.method ReflectliteType.elem) Tryd.func177 (by kernel_rfl) (by kernel_rfl) (by kernel_rfl) (by kernel_rfl)
  have h38 := @run_callFunc_extern Tryd.prog 178 _ (ReflectliteType.relation "Implements" ReflectliteType.implements_) Tryd.func178 (by kernel_rfl) (by kernel_rfl) (by kernel_rfl) (by kernel_rfl)
  have h10 := @run_callFunc_extern Tryd.prog 149 _ (ReflectliteType.typeOf) Tryd.func149 (by kernel_rfl) (by kernel_rfl) (by kernel_rfl) (by kernel_rfl)
  have h35 := @run_callFunc_extern Tryd.prog 175 _ (ReflectliteType.relation "AssignableTo" ReflectliteType.assignableTo) Tryd.func175 (by kernel_rfl) (by kernel_rfl) (by kernel_rfl) (by kernel_rfl)
  have h11 := @run_callFunc_extern Tryd.prog 150 _ (ReflectliteValue.method (ReflectliteValue.valueError "reflectlite.Value.Elem" 0) ReflectliteValue.elem) Tryd.func150 (by kernel_rfl) (by kernel_rfl) (by kernel_rfl) (by kernel_rfl)
  have h12 := @run_callFunc_extern Tryd.prog 151 _ (ReflectliteValue.set) Tryd.func151 (by kernel_rfl) (by kernel_rfl) (by kernel_rfl) (by kernel_rfl)
  have tO := rl_typeof
  have mA := rl_assm
  have a25 := rl_ass
  have v25 := rl_valuee
  have f6 := rl_value
  have f7 := rl_type
  have mK := rl_kindm
  have mE := rl_elemm
  have mI := rl_implm
  have k27 := rl_kind
  have k25 := rl_kinde
  have e27 := rl_elem
  have i25 := rl_impl
  have n8 := rl_nil ⟨w.heap.size, 0, none⟩ t ((w.alloc (.cells #[.pointer (some t)] 161)).alloc (.cells #[.pointer (some ⟨3, 161, none⟩), .pointer (some ⟨w.heap.size, 0, none⟩), .int .u64 150] 172)) (by simp)
  have hg2 : ((w.alloc (.cells #[.pointer (some t)] 161)).alloc (.cells #[.pointer (some ⟨3, 161, none⟩), .pointer (some ⟨w.heap.size, 0, none⟩), .int .u64 150] 172)).cell? ⟨2, 0, none⟩ = some (.iface 183 (.agg #[.pointer (some ⟨3, 27, none⟩)])) := by
    rw [World.cell?_alloc_lt _ _ ⟨2, 0, none⟩ (by simp; omega), World.cell?_alloc_lt _ _ ⟨2, 0, none⟩ hgl]; exact hg
  have htl : t.block < w.heap.size := by
    rcases Nat.lt_or_ge t.block w.heap.size with h | h
    · exact h
    · simp [World.cell?, Array.getElem?_eq_none h] at ht0
  have el := rl_elemv ⟨w.heap.size, 0, none⟩ t (((w.alloc (.cells #[.pointer (some t)] 161)).alloc (.cells #[.pointer (some ⟨3, 161, none⟩), .pointer (some ⟨w.heap.size, 0, none⟩), .int .u64 150] 172)).alloc (.cells #[.pointer (some ⟨3, 161, none⟩), .pointer (some ⟨w.heap.size, 0, none⟩), .int .u64 150] 172)) (by rw [World.cell?_alloc_lt _ _ ⟨w.heap.size, 0, none⟩ (by simp; omega)]; simp)
  have st := rl_set t ⟨w.heap.size + 1 + 1 + 1, 0, none⟩ k old ((((w.alloc (.cells #[.pointer (some t)] 161)).alloc (.cells #[.pointer (some ⟨3, 161, none⟩), .pointer (some ⟨w.heap.size, 0, none⟩), .int .u64 150] 172)).alloc (.cells #[.pointer (some ⟨3, 161, none⟩), .pointer (some ⟨w.heap.size, 0, none⟩), .int .u64 150] 172)).alloc (.cells #[.int .i64 k] 118))
    (by rw [World.cell?_alloc_at _ _ _ _ (by simp)]; rfl)
    (by rw [World.cell?_alloc_lt _ _ t (by simp; omega), World.cell?_alloc_lt _ _ t (by simp; omega), World.cell?_alloc_lt _ _ t (by simp; omega), World.cell?_alloc_lt _ _ t htl]; exact ht0)
    (by rw [World.frozen?_alloc_old _ _ t (by simp; omega), World.frozen?_alloc_old _ _ t (by simp; omega), World.frozen?_alloc_old _ _ t (by simp; omega), World.frozen?_alloc_old _ _ t (Nat.ne_of_lt htl)]; exact hf0)
  go_enter Tryd.func134, Tryd.ntmps134
  go_wp2
  refine wp_loop_rounds 1 ?_
  rw [rounds_succ]
  go_wp2
  go_ret
  exact ⟨rfl, rfl⟩
/-- An error is told by its number. -/
theorem told_nil (w : World) : Calls Tryd.prog 89 #[.nilIface] w fun e w' => e = .returned (.int .i64 0) ∧ Below w.heap.size w w' := by
  go_enter Tryd.func89, Tryd.ntmps89
  go_wp2
  go_ret
  exact ⟨rfl, (by repeat (first | exact Below.refl _ _ | refine balloc ?_ _ | refine Below.drew ?_ | refine below_drewN ?_ _ | refine below_set ?_ (by first | omega | (dsimp only; omega)) _))⟩
set_option maxHeartbeats 4000000 in
theorem told_err (k : Int) (w : World) (hE : ErrAt w) : Calls Tryd.prog 89 #[.iface 118 (.int .i64 k)] w fun e w' => e = .returned (.int .i64 k) ∧ Below w.heap.size w w' := by
  go_enter Tryd.func89, Tryd.ntmps89
  go_wp2_with fail
  refine (as_hit k ⟨w.heap.size, 0, none⟩ (.int .i64 0) _ (by rw [World.cell?_alloc_lt _ _ ⟨2, 0, none⟩ hE.2]; exact hE.1) (by simp; have := hE.2; omega) (by simp) (by simp)).mono ?_; rintro e w1 ⟨rfl, hw⟩
  have hc : w1.cell? ⟨w.heap.size, 0, none⟩ = some (.int .i64 k) := by
    rw [hw]; refine World.cell?_setCell_same (u := .int .i64 0) _ _ _ ?_
    rw [World.cell?_alloc_lt _ _ ⟨w.heap.size, 0, none⟩ (by simp; omega), World.cell?_alloc_lt _ _ ⟨w.heap.size, 0, none⟩ (by simp; omega), World.cell?_alloc_lt _ _ ⟨w.heap.size, 0, none⟩ (by simp; omega), World.cell?_alloc_lt _ _ ⟨w.heap.size, 0, none⟩ (by simp)]; simp
  have hb : Below w.heap.size w w1 := by
    rw [hw]; exact below_set (balloc (balloc (balloc (balloc (below_alloc _ _) _) _) _) _) (Nat.le_refl _) _
  have hz := hb.size
  have hl : w.heap.size < w1.heap.size := by rw [hw]; simp; omega
  clear hw
  go_wp2
  go_ret
  exact ⟨rfl, hb⟩
theorem error_nil (n : Int) (w : World) (b : Bool) (h : Hid (((0 : Int) == n) = b)) : Calls Tryd.prog 21 #[.nilIface, .int .i64 n] w fun e w' => e = .returned (.bool b) ∧ Below w.heap.size w w' := by
  go_enter Tryd.func21, Tryd.ntmps21
  go_wp2_with fail
  refine (told_nil _).mono ?_; rintro e w1 ⟨rfl, hb⟩
  have he := h.out
  go_wp2
  go_ret
  exact ⟨rfl, hb⟩
theorem error_err (k n : Int) (w : World) (hE : ErrAt w) (b : Bool) (h : Hid ((k == n) = b)) : Calls Tryd.prog 21 #[.iface 118 (.int .i64 k), .int .i64 n] w fun e w' => e = .returned (.bool b) ∧ Below w.heap.size w w' := by
  go_enter Tryd.func21, Tryd.ntmps21
  go_wp2_with fail
  refine (told_err k _ hE).mono ?_; rintro e w1 ⟨rfl, hb⟩
  have he := h.out
  go_wp2
  go_ret
  exact ⟨rfl, hb⟩
/-- An error's value, by its number; it is told as that number. -/
theorem error_same (E : Value) (n : Int) (w : World) (hE : ErrAt w) (h : Hid (E = errV n)) : Calls Tryd.prog 21 #[E, .int .i64 n] w fun e w' => e = .returned (.bool true) ∧ Below w.heap.size w w' := by
  rw [h.out]; unfold errV
  split
  · next e => rw [e]; exact error_nil 0 w true rfl
  · exact error_err n n w hE true (by show _ = _; simp)
end Go.Proofs.YtfnifdmnbccblaaDoor
namespace Go.Proofs.YtfnifdmnbccblaaDoor
open Go.RowKit
set_option maxRecDepth 100000
set_option linter.unusedVariables false
set_option linter.unusedSimpArgs false
theorem IntSl.nil_ (w : World) : IntSl w (.slice none 0 0) [] := ⟨none, 0, rfl, fun h => absurd h (Nat.lt_irrefl 0)⟩
set_option maxHeartbeats 64000000 in
theorem rt_core (a0 a6 a7 : Option Addr) (n0 n6 n7 c0 c6 c7 : Nat) (r : Sp) (t : ByteArray) (at' x k C : Int) (w : World) (hE : ErrAt w) (j6 : n6 ≤ 9223372036854775807) (j7 : n7 ≤ 9223372036854775807)
    (E0 E1 F E2 N E3 E4 E5 E6 CW F1 F2 F3 : Int) (WL : List Int) (hWl : Hid (WL.length ≤ 1000000)) (B81 Bx Bk B105 B183 BC B192 RT : Bool)
    (kS : Hid (RvAt w 44 #[.slice a0 n0 c0] (.int .i64 E0)))
    (h1 : Hid ((E0 = 0 ∧ sCheck r = E1) ∨ ((E0 == 0) = false ∧ E1 = E0)))
    (kRg : Hid (RvAt w 45 #[.slice a0 n0 c0, .string t] (.int .i64 F)))
    (h2 : Hid ((E1 = 0 ∧ E2 = F) ∨ ((E1 == 0) = false ∧ E2 = E1)))
    (h3 : Hid ((E2 = 0 ∧ RvAt w 46 #[.slice a0 n0 c0, spV r, .string t] (.int .i64 N)) ∨ ((E2 == 0) = false ∧ N = 0)))
    (kAsk : Hid (RvAt w 47 #[.slice a0 n0 c0, spV r, .string t] (.tuple #[.int .i64 N, errV E2])))
    (h4 : Hid ((F = 0 ∧ ((n6 : Int) != (n0 : Int)) = B81) ∨ ((F == 0) = false ∧ B81 = false)))
    (h5 : Hid ((B81 = true ∧ E3 = 3) ∨ (B81 = false ∧ E3 = F)))
    (jBx : Hid (secB x = Bx)) (jBk : Hid (secB k = Bk))
    (h6 : Hid ((E3 = 0 ∧ at' < 0 ∧ B105 = true) ∨ (E3 = 0 ∧ 0 ≤ at' ∧ (n0 : Int) ≤ at' ∧ B105 = true) ∨ (E3 = 0 ∧ 0 ≤ at' ∧ at' < (n0 : Int) ∧ Bx = false ∧ B105 = true) ∨ (E3 = 0 ∧ 0 ≤ at' ∧ at' < (n0 : Int) ∧ Bx = true ∧ Bk = false ∧ B105 = true) ∨ (E3 = 0 ∧ 0 ≤ at' ∧ at' < (n0 : Int) ∧ Bx = true ∧ Bk = true ∧ B105 = false) ∨ ((E3 == 0) = false ∧ B105 = false)))
    (h7 : Hid ((B105 = true ∧ E4 = 1) ∨ (B105 = false ∧ E4 = E3)))
    (h8 : Hid (((E4 == 0) = false ∧ E5 = E4) ∨ (E4 = 0 ∧ ∃ (ss : List Int) (q0 : Nat), n6 = ss.length ∧ (0 < ss.length → ∃ b off, a6 = some ⟨b, off, none⟩ ∧ IntsAt w b off ss) ∧ q0 ≤ ss.length ∧ (∀ i (h : i < ss.length), i < q0 → resB ss[i] = true ∨ (i : Int) = at') ∧ (∀ h : q0 < ss.length, resB ss[q0] = false ∧ (q0 : Int) ≠ at' ∧ E5 = 1) ∧ (q0 = ss.length → E5 = 0))))
    (h9 : Hid (((E5 == 0) = false ∧ E6 = E5) ∨ (E5 = 0 ∧ ∃ (K A : Sp) (p b off : Nat), -9223372036854775808 ≤ x ∧ x ≤ 9223372036854775807 ∧ sq (4 * x) = K ∧ at' = (p : Int) ∧ p < n0 ∧ a0 = some ⟨b, off, none⟩ ∧ (∀ w1 : World, Below w.heap.size w w1 → w1.cell? ⟨b, off + p * 3, none⟩ = some (.int .i64 A.x) ∧ w1.cell? ⟨b, off + p * 3 + 1, none⟩ = some (.int .i64 A.y) ∧ w1.cell? ⟨b, off + p * 3 + 2, none⟩ = some (.bool A.far) ∧ b < w1.heap.size) ∧ ((Sp.beq K A = true ∧ E6 = 0) ∨ (Sp.beq K A = false ∧ E6 = 8)))))
    (h10 : Hid (((E6 == 0) = false ∧ CW = 0 ∧ WL = []) ∨ (E6 = 0 ∧ ∀ w1 : World, Below w.heap.size w w1 → Calls Tryd.prog 48 #[.slice a0 n0 c0, .int .i64 at', .int .i64 x, .int .i64 k, .slice a6 n6 c6, .string t] w1 fun e w' => ∃ v', e = .returned (.agg #[.int .i64 CW, v']) ∧ IntF w1.heap.size w' v' WL ∧ Below w1.heap.size w1 w')))
    (kSg : Hid (∀ w1 : World, Below w.heap.size w w1 → Calls Tryd.prog 49 #[.slice a0 n0 c0, .int .i64 at', .int .i64 x, .int .i64 k, .slice a6 n6 c6, .string t] w1 fun e w' => ∃ v', e = .returned (.tuple #[.agg #[.int .i64 CW, v'], errV E6]) ∧ IntSl w' v' WL ∧ Below w1.heap.size w1 w'))
    (h11 : Hid ((F = 0 ∧ ((n7 : Int) != (n0 : Int)) = B183) ∨ ((F == 0) = false ∧ B183 = false)))
    (h12 : Hid ((B183 = true ∧ F1 = 3) ∨ (B183 = false ∧ F1 = F)))
    (jBC : Hid (resB C = BC))
    (h13 : Hid ((F1 = 0 ∧ BC = true ∧ B192 = false) ∨ (F1 = 0 ∧ BC = false ∧ B192 = true) ∨ ((F1 == 0) = false ∧ B192 = false)))
    (h14 : Hid ((B192 = true ∧ F2 = 1) ∨ (B192 = false ∧ F2 = F1)))
    (h15 : Hid (((F2 == 0) = false ∧ F3 = F2) ∨ (F2 = 0 ∧ ∃ (ss : List Int) (q0 : Nat), n7 = ss.length ∧ (0 < ss.length → ∃ b off, a7 = some ⟨b, off, none⟩ ∧ IntsAt w b off ss) ∧ q0 ≤ ss.length ∧ (∀ i (h : i < ss.length), i < q0 → resB ss[i] = true) ∧ (∀ h : q0 < ss.length, resB ss[q0] = false ∧ F3 = 1) ∧ (q0 = ss.length → F3 = 0))))
    (h16 : Hid (((F3 == 0) = false ∧ RT = false) ∨ (F3 = 0 ∧ RvAt w 50 #[.slice a0 n0 c0, .string t, .agg #[.int .i64 C, .slice a7 n7 c7]] (.bool RT))))
    (kVer : Hid (RvAt w 51 #[.slice a0 n0 c0, .string t, .agg #[.int .i64 C, .slice a7 n7 c7]] (.tuple #[.bool RT, errV F3]))) :
    Calls Tryd.prog 7 #[.slice a0 n0 c0, spV r, .string t, .int .i64 at', .int .i64 x, .int .i64 k, .slice a6 n6 c6, .agg #[.int .i64 C, .slice a7 n7 c7]] w fun e w' => e = .returned (.bool true) ∧ Below w.heap.size w w' := by
  go_enter Tryd.func7, Tryd.ntmps7
  go_wp2_with fail
  refine (kS.out _ (by repeat (first | exact Below.refl _ _ | refine balloc ?_ _ | refine Below.drew ?_ | refine below_drewN ?_ _ | refine below_set ?_ (by first | omega | (dsimp only; omega)) _))).mono ?_; rintro e w1 ⟨rfl, hb⟩
  obtain ⟨hc1, hf1⟩ := bcell hb
  have z1 := hb.size
  try simp only [World.size_alloc, World.size_setCell, World.size_drew] at z1
  have s1_0 : w.heap.size < w1.heap.size := by omega
  have s1_1 : w.heap.size + 1 < w1.heap.size := by omega
  have hB1 : Below w.heap.size w w1 := below_seq (by repeat (first | exact Below.refl _ _ | refine balloc ?_ _ | refine Below.drew ?_ | refine below_drewN ?_ _ | refine below_set ?_ (by first | omega | (dsimp only; omega)) _)) hb
  clear hb
  have m1_0_0 : w1.cell? ⟨w.heap.size, 0, none⟩ = some (.int .i64 r.x) := by go_simp
  have m1_0_1 : w1.cell? ⟨w.heap.size, 1, none⟩ = some (.int .i64 r.y) := by go_simp
  have m1_0_2 : w1.cell? ⟨w.heap.size, 2, none⟩ = some (.bool r.far) := by go_simp
  have m1_1_0 : w1.cell? ⟨w.heap.size + 1, 0, none⟩ = some (.int .i64 C) := by go_simp
  have m1_1_1 : w1.cell? ⟨w.heap.size + 1, 1, none⟩ = some (.slice a7 n7 c7) := by go_simp
  clear hc1
  go_upto_if 40 with fail
  go_cut [17] from 41 to 42 (fun s17 wx => s17 = .int .i64 E1 ∧ Below w.heap.size w wx ∧ w.heap.size < wx.heap.size ∧ w.heap.size + 1 < wx.heap.size ∧ wx.cell? ⟨w.heap.size, 0, none⟩ = some (.int .i64 r.x) ∧ wx.cell? ⟨w.heap.size, 1, none⟩ = some (.int .i64 r.y) ∧ wx.cell? ⟨w.heap.size, 2, none⟩ = some (.bool r.far) ∧ wx.cell? ⟨w.heap.size + 1, 0, none⟩ = some (.int .i64 C) ∧ wx.cell? ⟨w.heap.size + 1, 1, none⟩ = some (.slice a7 n7 c7))
  case first =>
    rcases h1.out with ⟨e1, e2⟩ | ⟨e1, e2⟩
    · subst e1
      replace e2 := Lib.hid e2
      clear h1
      go_wp2_with fail
      refine (refSpot_e r E1 _ e2).mono ?_; rintro e w2 ⟨rfl, hb⟩
      obtain ⟨hc2, hf2⟩ := bcell hb
      have z2 := hb.size
      try simp only [World.size_alloc, World.size_setCell, World.size_drew] at z2
      have s2_0 : w.heap.size < w2.heap.size := by omega
      have s2_1 : w.heap.size + 1 < w2.heap.size := by omega
      have hB2 : Below w.heap.size w w2 := below_seq (by repeat (first | exact hB1 | exact Below.refl _ _ | refine balloc ?_ _ | refine Below.drew ?_ | refine below_drewN ?_ _ | refine below_set ?_ (by first | omega | (dsimp only; omega)) _)) hb
      clear hb
      have m2_0_0 : w2.cell? ⟨w.heap.size, 0, none⟩ = some (.int .i64 r.x) := by go_simp
      have m2_0_1 : w2.cell? ⟨w.heap.size, 1, none⟩ = some (.int .i64 r.y) := by go_simp
      have m2_0_2 : w2.cell? ⟨w.heap.size, 2, none⟩ = some (.bool r.far) := by go_simp
      have m2_1_0 : w2.cell? ⟨w.heap.size + 1, 0, none⟩ = some (.int .i64 C) := by go_simp
      have m2_1_1 : w2.cell? ⟨w.heap.size + 1, 1, none⟩ = some (.slice a7 n7 c7) := by go_simp
      clear m1_0_0 m1_0_1 m1_0_2 m1_1_0 m1_1_1
      clear hc2
      go_wp2_with fail
      go_meet
      exact ⟨rfl, (by repeat (first | exact hB2 | exact Below.refl _ _ | refine balloc ?_ _ | refine Below.drew ?_ | refine below_drewN ?_ _ | refine below_set ?_ (by first | omega | (dsimp only; omega)) _)), (by first | omega | (simp only [World.heap_drewN, World.size_alloc, World.size_setCell, World.size_drew]; omega)), (by first | omega | (simp only [World.heap_drewN, World.size_alloc, World.size_setCell, World.size_drew]; omega)), (by go_simp), (by go_simp), (by go_simp), (by go_simp), (by go_simp)⟩
    · subst e2
      clear h1
      go_wp2_with fail
      go_meet
      exact ⟨rfl, (by repeat (first | exact hB1 | exact Below.refl _ _ | refine balloc ?_ _ | refine Below.drew ?_ | refine below_drewN ?_ _ | refine below_set ?_ (by first | omega | (dsimp only; omega)) _)), (by first | omega | (simp only [World.heap_drewN, World.size_alloc, World.size_setCell, World.size_drew]; omega)), (by first | omega | (simp only [World.heap_drewN, World.size_alloc, World.size_setCell, World.size_drew]; omega)), (by go_simp), (by go_simp), (by go_simp), (by go_simp), (by go_simp)⟩
  case rest =>
    obtain ⟨w2, hwq⟩ : ∃ x, x = wc := ⟨_, rfl⟩
    subst hwq
    obtain ⟨rfl, hB2, s2_0, s2_1, m2_0_0, m2_0_1, m2_0_2, m2_1_0, m2_1_1⟩ := hcut
    clear m1_0_0 m1_0_1 m1_0_2 m1_1_0 m1_1_1
    clear h1 kS
    go_upto_if 44 with fail
    go_cut [17] from 45 to 47 (fun s17 wx => s17 = .int .i64 E2 ∧ Below w.heap.size w wx ∧ w.heap.size < wx.heap.size ∧ w.heap.size + 1 < wx.heap.size ∧ wx.cell? ⟨w.heap.size, 0, none⟩ = some (.int .i64 r.x) ∧ wx.cell? ⟨w.heap.size, 1, none⟩ = some (.int .i64 r.y) ∧ wx.cell? ⟨w.heap.size, 2, none⟩ = some (.bool r.far) ∧ wx.cell? ⟨w.heap.size + 1, 0, none⟩ = some (.int .i64 C) ∧ wx.cell? ⟨w.heap.size + 1, 1, none⟩ = some (.slice a7 n7 c7))
    case first =>
      rcases h2.out with ⟨e1, e2⟩ | ⟨e1, e2⟩
      · subst e1 e2
        clear h2
        go_wp2_with fail
        refine (kRg.out _ (by repeat (first | exact hB2 | exact Below.refl _ _ | refine balloc ?_ _ | refine Below.drew ?_ | refine below_drewN ?_ _ | refine below_set ?_ (by first | omega | (dsimp only; omega)) _))).mono ?_; rintro e w3 ⟨rfl, hb⟩
        obtain ⟨hc3, hf3⟩ := bcell hb
        have z3 := hb.size
        try simp only [World.size_alloc, World.size_setCell, World.size_drew] at z3
        have s3_0 : w.heap.size < w3.heap.size := by omega
        have s3_1 : w.heap.size + 1 < w3.heap.size := by omega
        have hB3 : Below w.heap.size w w3 := below_seq (by repeat (first | exact hB2 | exact Below.refl _ _ | refine balloc ?_ _ | refine Below.drew ?_ | refine below_drewN ?_ _ | refine below_set ?_ (by first | omega | (dsimp only; omega)) _)) hb
        clear hb
        have m3_0_0 : w3.cell? ⟨w.heap.size, 0, none⟩ = some (.int .i64 r.x) := by go_simp
        have m3_0_1 : w3.cell? ⟨w.heap.size, 1, none⟩ = some (.int .i64 r.y) := by go_simp
        have m3_0_2 : w3.cell? ⟨w.heap.size, 2, none⟩ = some (.bool r.far) := by go_simp
        have m3_1_0 : w3.cell? ⟨w.heap.size + 1, 0, none⟩ = some (.int .i64 C) := by go_simp
        have m3_1_1 : w3.cell? ⟨w.heap.size + 1, 1, none⟩ = some (.slice a7 n7 c7) := by go_simp
        clear m2_0_0 m2_0_1 m2_0_2 m2_1_0 m2_1_1
        clear hc3
        go_wp2_with fail
        go_meet
        exact ⟨rfl, (by repeat (first | exact hB3 | exact Below.refl _ _ | refine balloc ?_ _ | refine Below.drew ?_ | refine below_drewN ?_ _ | refine below_set ?_ (by first | omega | (dsimp only; omega)) _)), (by first | omega | (simp only [World.heap_drewN, World.size_alloc, World.size_setCell, World.size_drew]; omega)), (by first | omega | (simp only [World.heap_drewN, World.size_alloc, World.size_setCell, World.size_drew]; omega)), (by go_simp), (by go_simp), (by go_simp), (by go_simp), (by go_simp)⟩
      · subst e2
        clear h2
        go_wp2_with fail
        go_meet
        exact ⟨rfl, (by repeat (first | exact hB2 | exact Below.refl _ _ | refine balloc ?_ _ | refine Below.drew ?_ | refine below_drewN ?_ _ | refine below_set ?_ (by first | omega | (dsimp only; omega)) _)), (by first | omega | (simp only [World.heap_drewN, World.size_alloc, World.size_setCell, World.size_drew]; omega)), (by first | omega | (simp only [World.heap_drewN, World.size_alloc, World.size_setCell, World.size_drew]; omega)), (by go_simp), (by go_simp), (by go_simp), (by go_simp), (by go_simp)⟩
    case rest =>
      obtain ⟨w3, hwq⟩ : ∃ x, x = wc := ⟨_, rfl⟩
      subst hwq
      obtain ⟨rfl, hB3, s3_0, s3_1, m3_0_0, m3_0_1, m3_0_2, m3_1_0, m3_1_1⟩ := hcut
      clear m2_0_0 m2_0_1 m2_0_2 m2_1_0 m2_1_1
      clear h2
      go_upto_if 49 with fail
      go_cut [18] from 50 to 53 (fun s18 wx => s18 = .int .i64 N ∧ Below w.heap.size w wx ∧ w.heap.size < wx.heap.size ∧ w.heap.size + 1 < wx.heap.size ∧ wx.cell? ⟨w.heap.size, 0, none⟩ = some (.int .i64 r.x) ∧ wx.cell? ⟨w.heap.size, 1, none⟩ = some (.int .i64 r.y) ∧ wx.cell? ⟨w.heap.size, 2, none⟩ = some (.bool r.far) ∧ wx.cell? ⟨w.heap.size + 1, 0, none⟩ = some (.int .i64 C) ∧ wx.cell? ⟨w.heap.size + 1, 1, none⟩ = some (.slice a7 n7 c7))
      case first =>
        rcases h3.out with ⟨e1, e2⟩ | ⟨e1, e2⟩
        · subst e1
          replace e2 := Lib.hid e2
          clear h3
          go_wp2_with fail
          refine (e2.out _ (by repeat (first | exact hB3 | exact Below.refl _ _ | refine balloc ?_ _ | refine Below.drew ?_ | refine below_drewN ?_ _ | refine below_set ?_ (by first | omega | (dsimp only; omega)) _))).mono ?_; rintro e w4 ⟨rfl, hb⟩
          obtain ⟨hc4, hf4⟩ := bcell hb
          have z4 := hb.size
          try simp only [World.size_alloc, World.size_setCell, World.size_drew] at z4
          have s4_0 : w.heap.size < w4.heap.size := by omega
          have s4_1 : w.heap.size + 1 < w4.heap.size := by omega
          have hB4 : Below w.heap.size w w4 := below_seq (by repeat (first | exact hB3 | exact Below.refl _ _ | refine balloc ?_ _ | refine Below.drew ?_ | refine below_drewN ?_ _ | refine below_set ?_ (by first | omega | (dsimp only; omega)) _)) hb
          clear hb
          have m4_0_0 : w4.cell? ⟨w.heap.size, 0, none⟩ = some (.int .i64 r.x) := by go_simp
          have m4_0_1 : w4.cell? ⟨w.heap.size, 1, none⟩ = some (.int .i64 r.y) := by go_simp
          have m4_0_2 : w4.cell? ⟨w.heap.size, 2, none⟩ = some (.bool r.far) := by go_simp
          have m4_1_0 : w4.cell? ⟨w.heap.size + 1, 0, none⟩ = some (.int .i64 C) := by go_simp
          have m4_1_1 : w4.cell? ⟨w.heap.size + 1, 1, none⟩ = some (.slice a7 n7 c7) := by go_simp
          clear m3_0_0 m3_0_1 m3_0_2 m3_1_0 m3_1_1
          clear hc4
          go_wp2_with fail
          go_meet
          exact ⟨rfl, (by repeat (first | exact hB4 | exact Below.refl _ _ | refine balloc ?_ _ | refine Below.drew ?_ | refine below_drewN ?_ _ | refine below_set ?_ (by first | omega | (dsimp only; omega)) _)), (by first | omega | (simp only [World.heap_drewN, World.size_alloc, World.size_setCell, World.size_drew]; omega)), (by first | omega | (simp only [World.heap_drewN, World.size_alloc, World.size_setCell, World.size_drew]; omega)), (by go_simp), (by go_simp), (by go_simp), (by go_simp), (by go_simp)⟩
        · subst e2
          clear h3
          go_wp2_with fail
          go_meet
          exact ⟨rfl, (by repeat (first | exact hB3 | exact Below.refl _ _ | refine balloc ?_ _ | refine Below.drew ?_ | refine below_drewN ?_ _ | refine below_set ?_ (by first | omega | (dsimp only; omega)) _)), (by first | omega | (simp only [World.heap_drewN, World.size_alloc, World.size_setCell, World.size_drew]; omega)), (by first | omega | (simp only [World.heap_drewN, World.size_alloc, World.size_setCell, World.size_drew]; omega)), (by go_simp), (by go_simp), (by go_simp), (by go_simp), (by go_simp)⟩
      case rest =>
        obtain ⟨w4, hwq⟩ : ∃ x, x = wc := ⟨_, rfl⟩
        subst hwq
        obtain ⟨rfl, hB4, s4_0, s4_1, m4_0_0, m4_0_1, m4_0_2, m4_1_0, m4_1_1⟩ := hcut
        clear m3_0_0 m3_0_1 m3_0_2 m3_1_0 m3_1_1
        clear h3
        go_wp2_with fail
        refine (kAsk.out _ (by repeat (first | exact hB4 | exact Below.refl _ _ | refine balloc ?_ _ | refine Below.drew ?_ | refine below_drewN ?_ _ | refine below_set ?_ (by first | omega | (dsimp only; omega)) _))).mono ?_; rintro e w5 ⟨rfl, hb⟩
        obtain ⟨hc5, hf5⟩ := bcell hb
        have z5 := hb.size
        try simp only [World.size_alloc, World.size_setCell, World.size_drew] at z5
        have s5_0 : w.heap.size < w5.heap.size := by omega
        have s5_1 : w.heap.size + 1 < w5.heap.size := by omega
        have hB5 : Below w.heap.size w w5 := below_seq (by repeat (first | exact hB4 | exact Below.refl _ _ | refine balloc ?_ _ | refine Below.drew ?_ | refine below_drewN ?_ _ | refine below_set ?_ (by first | omega | (dsimp only; omega)) _)) hb
        clear hb
        have m5_0_0 : w5.cell? ⟨w.heap.size, 0, none⟩ = some (.int .i64 r.x) := by go_simp
        have m5_0_1 : w5.cell? ⟨w.heap.size, 1, none⟩ = some (.int .i64 r.y) := by go_simp
        have m5_0_2 : w5.cell? ⟨w.heap.size, 2, none⟩ = some (.bool r.far) := by go_simp
        have m5_1_0 : w5.cell? ⟨w.heap.size + 1, 0, none⟩ = some (.int .i64 C) := by go_simp
        have m5_1_1 : w5.cell? ⟨w.heap.size + 1, 1, none⟩ = some (.slice a7 n7 c7) := by go_simp
        clear m4_0_0 m4_0_1 m4_0_2 m4_1_0 m4_1_1
        clear hc5
        go_wp2_with fail
        refine (error_same (errV E2) E2 _ (hE.below (by repeat (first | exact hB5 | exact Below.refl _ _ | refine balloc ?_ _ | refine Below.drew ?_ | refine below_drewN ?_ _ | refine below_set ?_ (by first | omega | (dsimp only; omega)) _))) (Lib.hid rfl)).mono ?_; rintro e w6 ⟨rfl, hb⟩
        obtain ⟨hc6, hf6⟩ := bcell hb
        have z6 := hb.size
        try simp only [World.size_alloc, World.size_setCell, World.size_drew] at z6
        have s6_0 : w.heap.size < w6.heap.size := by omega
        have s6_1 : w.heap.size + 1 < w6.heap.size := by omega
        have hB6 : Below w.heap.size w w6 := below_seq (by repeat (first | exact hB5 | exact Below.refl _ _ | refine balloc ?_ _ | refine Below.drew ?_ | refine below_drewN ?_ _ | refine below_set ?_ (by first | omega | (dsimp only; omega)) _)) hb
        clear hb
        have m6_0_0 : w6.cell? ⟨w.heap.size, 0, none⟩ = some (.int .i64 r.x) := by go_simp
        have m6_0_1 : w6.cell? ⟨w.heap.size, 1, none⟩ = some (.int .i64 r.y) := by go_simp
        have m6_0_2 : w6.cell? ⟨w.heap.size, 2, none⟩ = some (.bool r.far) := by go_simp
        have m6_1_0 : w6.cell? ⟨w.heap.size + 1, 0, none⟩ = some (.int .i64 C) := by go_simp
        have m6_1_1 : w6.cell? ⟨w.heap.size + 1, 1, none⟩ = some (.slice a7 n7 c7) := by go_simp
        clear m5_0_0 m5_0_1 m5_0_2 m5_1_0 m5_1_1
        clear hc6
        go_wp2_with fail
        refine (kRg.out _ (by repeat (first | exact hB6 | exact Below.refl _ _ | refine balloc ?_ _ | refine Below.drew ?_ | refine below_drewN ?_ _ | refine below_set ?_ (by first | omega | (dsimp only; omega)) _))).mono ?_; rintro e w7 ⟨rfl, hb⟩
        obtain ⟨hc7, hf7⟩ := bcell hb
        have z7 := hb.size
        try simp only [World.size_alloc, World.size_setCell, World.size_drew] at z7
        have s7_0 : w.heap.size < w7.heap.size := by omega
        have s7_1 : w.heap.size + 1 < w7.heap.size := by omega
        have hB7 : Below w.heap.size w w7 := below_seq (by repeat (first | exact hB6 | exact Below.refl _ _ | refine balloc ?_ _ | refine Below.drew ?_ | refine below_drewN ?_ _ | refine below_set ?_ (by first | omega | (dsimp only; omega)) _)) hb
        clear hb
        have m7_0_0 : w7.cell? ⟨w.heap.size + 1, 0, none⟩ = some (.int .i64 C) := by go_simp
        have m7_0_1 : w7.cell? ⟨w.heap.size + 1, 1, none⟩ = some (.slice a7 n7 c7) := by go_simp
        clear m6_0_0 m6_0_1 m6_0_2 m6_1_0 m6_1_1
        clear hc7
        go_upto_region 13 with fail
        go_cut [81] from 73 to 80 (fun s81 wx => s81 = .bool B81 ∧ Below w.heap.size w wx ∧ w.heap.size < wx.heap.size ∧ w.heap.size + 1 < wx.heap.size ∧ wx.cell? ⟨w.heap.size + 1, 0, none⟩ = some (.int .i64 C) ∧ wx.cell? ⟨w.heap.size + 1, 1, none⟩ = some (.slice a7 n7 c7))
        case first =>
          rcases h4.out with ⟨e1, e2⟩ | ⟨e1, e2⟩
          · subst e1
            clear h4
            go_wp2_with fail
            go_meet
            exact ⟨rfl, (by repeat (first | exact hB7 | exact Below.refl _ _ | refine balloc ?_ _ | refine Below.drew ?_ | refine below_drewN ?_ _ | refine below_set ?_ (by first | omega | (dsimp only; omega)) _)), (by first | omega | (simp only [World.heap_drewN, World.size_alloc, World.size_setCell, World.size_drew]; omega)), (by first | omega | (simp only [World.heap_drewN, World.size_alloc, World.size_setCell, World.size_drew]; omega)), (by go_simp), (by go_simp)⟩
          · subst e2
            clear h4
            go_wp2_with fail
            go_meet
            exact ⟨rfl, (by repeat (first | exact hB7 | exact Below.refl _ _ | refine balloc ?_ _ | refine Below.drew ?_ | refine below_drewN ?_ _ | refine below_set ?_ (by first | omega | (dsimp only; omega)) _)), (by first | omega | (simp only [World.heap_drewN, World.size_alloc, World.size_setCell, World.size_drew]; omega)), (by first | omega | (simp only [World.heap_drewN, World.size_alloc, World.size_setCell, World.size_drew]; omega)), (by go_simp), (by go_simp)⟩
        case rest =>
          obtain ⟨w8, hwq⟩ : ∃ x, x = wc := ⟨_, rfl⟩
          subst hwq
          obtain ⟨rfl, hB8, s8_0, s8_1, m8_0_0, m8_0_1⟩ := hcut
          clear m7_0_0 m7_0_1
          clear h4 kRg kAsk
          go_upto_if 81 with fail
          go_cut [17] from 82 to 82 (fun s17 wx => s17 = .int .i64 E3 ∧ Below w.heap.size w wx ∧ w.heap.size < wx.heap.size ∧ w.heap.size + 1 < wx.heap.size ∧ wx.cell? ⟨w.heap.size + 1, 0, none⟩ = some (.int .i64 C) ∧ wx.cell? ⟨w.heap.size + 1, 1, none⟩ = some (.slice a7 n7 c7))
          case first =>
            rcases h5.out with ⟨e1, e2⟩ | ⟨e1, e2⟩
            · subst e1 e2
              clear h5
              go_wp2_with fail
              go_meet
              exact ⟨rfl, (by repeat (first | exact hB8 | exact Below.refl _ _ | refine balloc ?_ _ | refine Below.drew ?_ | refine below_drewN ?_ _ | refine below_set ?_ (by first | omega | (dsimp only; omega)) _)), (by first | omega | (simp only [World.heap_drewN, World.size_alloc, World.size_setCell, World.size_drew]; omega)), (by first | omega | (simp only [World.heap_drewN, World.size_alloc, World.size_setCell, World.size_drew]; omega)), (by go_simp), (by go_simp)⟩
            · subst e1 e2
              clear h5
              go_wp2_with fail
              go_meet
              exact ⟨rfl, (by repeat (first | exact hB8 | exact Below.refl _ _ | refine balloc ?_ _ | refine Below.drew ?_ | refine below_drewN ?_ _ | refine below_set ?_ (by first | omega | (dsimp only; omega)) _)), (by first | omega | (simp only [World.heap_drewN, World.size_alloc, World.size_setCell, World.size_drew]; omega)), (by first | omega | (simp only [World.heap_drewN, World.size_alloc, World.size_setCell, World.size_drew]; omega)), (by go_simp), (by go_simp)⟩
          case rest =>
            obtain ⟨w9, hwq⟩ : ∃ x, x = wc := ⟨_, rfl⟩
            subst hwq
            obtain ⟨rfl, hB9, s9_0, s9_1, m9_0_0, m9_0_1⟩ := hcut
            clear m8_0_0 m8_0_1
            clear h5
            go_wp2_with fail
            refine (rSecret_b x Bx _ jBx).mono ?_; rintro e w' ⟨rfl, rfl⟩
            go_wp2_with fail
            refine (rSecret_b k Bk _ jBk).mono ?_; rintro e w' ⟨rfl, rfl⟩
            go_upto_region 17 with fail
            go_cut [105] from 86 to 104 (fun s105 wx => s105 = .bool B105 ∧ Below w.heap.size w wx ∧ w.heap.size < wx.heap.size ∧ w.heap.size + 1 < wx.heap.size ∧ wx.cell? ⟨w.heap.size + 1, 0, none⟩ = some (.int .i64 C) ∧ wx.cell? ⟨w.heap.size + 1, 1, none⟩ = some (.slice a7 n7 c7))
            case first =>
              rcases h6.out with ⟨e1, e2, e3⟩ | ⟨e1, e2, e3, e4⟩ | ⟨e1, e2, e3, e4, e5⟩ | ⟨e1, e2, e3, e4, e5, e6⟩ | ⟨e1, e2, e3, e4, e5, e6⟩ | ⟨e1, e2⟩
              · subst e1 e3
                clear h6
                go_wp2_with fail
                go_meet
                exact ⟨rfl, (by repeat (first | exact hB9 | exact Below.refl _ _ | refine balloc ?_ _ | refine Below.drew ?_ | refine below_drewN ?_ _ | refine below_set ?_ (by first | omega | (dsimp only; omega)) _)), (by first | omega | (simp only [World.heap_drewN, World.size_alloc, World.size_setCell, World.size_drew]; omega)), (by first | omega | (simp only [World.heap_drewN, World.size_alloc, World.size_setCell, World.size_drew]; omega)), (by go_simp), (by go_simp)⟩
              · subst e1 e4
                clear h6
                go_wp2_with fail
                go_meet
                exact ⟨rfl, (by repeat (first | exact hB9 | exact Below.refl _ _ | refine balloc ?_ _ | refine Below.drew ?_ | refine below_drewN ?_ _ | refine below_set ?_ (by first | omega | (dsimp only; omega)) _)), (by first | omega | (simp only [World.heap_drewN, World.size_alloc, World.size_setCell, World.size_drew]; omega)), (by first | omega | (simp only [World.heap_drewN, World.size_alloc, World.size_setCell, World.size_drew]; omega)), (by go_simp), (by go_simp)⟩
              · subst e1 e4 e5
                clear h6
                go_wp2_with fail
                go_meet
                exact ⟨rfl, (by repeat (first | exact hB9 | exact Below.refl _ _ | refine balloc ?_ _ | refine Below.drew ?_ | refine below_drewN ?_ _ | refine below_set ?_ (by first | omega | (dsimp only; omega)) _)), (by first | omega | (simp only [World.heap_drewN, World.size_alloc, World.size_setCell, World.size_drew]; omega)), (by first | omega | (simp only [World.heap_drewN, World.size_alloc, World.size_setCell, World.size_drew]; omega)), (by go_simp), (by go_simp)⟩
              · subst e1 e4 e5 e6
                clear h6
                go_wp2_with fail
                go_meet
                exact ⟨rfl, (by repeat (first | exact hB9 | exact Below.refl _ _ | refine balloc ?_ _ | refine Below.drew ?_ | refine below_drewN ?_ _ | refine below_set ?_ (by first | omega | (dsimp only; omega)) _)), (by first | omega | (simp only [World.heap_drewN, World.size_alloc, World.size_setCell, World.size_drew]; omega)), (by first | omega | (simp only [World.heap_drewN, World.size_alloc, World.size_setCell, World.size_drew]; omega)), (by go_simp), (by go_simp)⟩
              · subst e1 e4 e5 e6
                clear h6
                have g1 : decide (at' < 0) = false := by rw [decide_eq_false_iff_not]; omega
                have g2 : decide ((n0 : Int) ≤ at') = false := by rw [decide_eq_false_iff_not]; omega
                go_wp2_with fail
                go_meet
                exact ⟨rfl, (by repeat (first | exact hB9 | exact Below.refl _ _ | refine balloc ?_ _ | refine Below.drew ?_ | refine below_drewN ?_ _ | refine below_set ?_ (by first | omega | (dsimp only; omega)) _)), (by first | omega | (simp only [World.heap_drewN, World.size_alloc, World.size_setCell, World.size_drew]; omega)), (by first | omega | (simp only [World.heap_drewN, World.size_alloc, World.size_setCell, World.size_drew]; omega)), (by go_simp), (by go_simp)⟩
              · subst e2
                clear h6
                go_wp2_with fail
                go_meet
                exact ⟨rfl, (by repeat (first | exact hB9 | exact Below.refl _ _ | refine balloc ?_ _ | refine Below.drew ?_ | refine below_drewN ?_ _ | refine below_set ?_ (by first | omega | (dsimp only; omega)) _)), (by first | omega | (simp only [World.heap_drewN, World.size_alloc, World.size_setCell, World.size_drew]; omega)), (by first | omega | (simp only [World.heap_drewN, World.size_alloc, World.size_setCell, World.size_drew]; omega)), (by go_simp), (by go_simp)⟩
            case rest =>
              obtain ⟨w10, hwq⟩ : ∃ x, x = wc := ⟨_, rfl⟩
              subst hwq
              obtain ⟨rfl, hB10, s10_0, s10_1, m10_0_0, m10_0_1⟩ := hcut
              clear m9_0_0 m9_0_1
              clear h6
              go_upto_if 105 with fail
              go_cut [17] from 106 to 106 (fun s17 wx => s17 = .int .i64 E4 ∧ Below w.heap.size w wx ∧ w.heap.size < wx.heap.size ∧ w.heap.size + 1 < wx.heap.size ∧ wx.cell? ⟨w.heap.size + 1, 0, none⟩ = some (.int .i64 C) ∧ wx.cell? ⟨w.heap.size + 1, 1, none⟩ = some (.slice a7 n7 c7))
              case first =>
                rcases h7.out with ⟨e1, e2⟩ | ⟨e1, e2⟩
                · subst e1 e2
                  clear h7
                  go_wp2_with fail
                  go_meet
                  exact ⟨rfl, (by repeat (first | exact hB10 | exact Below.refl _ _ | refine balloc ?_ _ | refine Below.drew ?_ | refine below_drewN ?_ _ | refine below_set ?_ (by first | omega | (dsimp only; omega)) _)), (by first | omega | (simp only [World.heap_drewN, World.size_alloc, World.size_setCell, World.size_drew]; omega)), (by first | omega | (simp only [World.heap_drewN, World.size_alloc, World.size_setCell, World.size_drew]; omega)), (by go_simp), (by go_simp)⟩
                · subst e1 e2
                  clear h7
                  go_wp2_with fail
                  go_meet
                  exact ⟨rfl, (by repeat (first | exact hB10 | exact Below.refl _ _ | refine balloc ?_ _ | refine Below.drew ?_ | refine below_drewN ?_ _ | refine below_set ?_ (by first | omega | (dsimp only; omega)) _)), (by first | omega | (simp only [World.heap_drewN, World.size_alloc, World.size_setCell, World.size_drew]; omega)), (by first | omega | (simp only [World.heap_drewN, World.size_alloc, World.size_setCell, World.size_drew]; omega)), (by go_simp), (by go_simp)⟩
              case rest =>
                obtain ⟨w11, hwq⟩ : ∃ x, x = wc := ⟨_, rfl⟩
                subst hwq
                obtain ⟨rfl, hB11, s11_0, s11_1, m11_0_0, m11_0_1⟩ := hcut
                clear m10_0_0 m10_0_1
                clear h7
                go_upto_block 0 with fail
                go_cut [17, 25, 26] from 106 to 127 (fun s17 s25 s26 wx => s17 = .int .i64 E5 ∧ Below w.heap.size w wx ∧ w.heap.size < wx.heap.size ∧ w.heap.size + 1 < wx.heap.size ∧ wx.cell? ⟨w.heap.size + 1, 0, none⟩ = some (.int .i64 C) ∧ wx.cell? ⟨w.heap.size + 1, 1, none⟩ = some (.slice a7 n7 c7))
                case first =>
                  rcases h8.out with ⟨e1, e2⟩ | ⟨e1, ss, q0, e2, hI, hq0, e3, e4, e5⟩
                  · subst e2
                    clear h8 h9 h10
                    rcases Nat.eq_zero_or_pos n6 with hm0 | hm0
                    · have g1 : decide ((0 : Int) < (n6 : Int)) = false := by rw [decide_eq_false_iff_not]; omega
                      go_wp2_with fail
                      refine wp_loop_rounds 1 ?_
                      rw [rounds_succ]
                      go_wp2_with fail
                      go_meet
                      exact ⟨rfl, (by repeat (first | exact hB11 | exact Below.refl _ _ | refine balloc ?_ _ | refine Below.drew ?_ | refine below_drewN ?_ _ | refine below_set ?_ (by first | omega | (dsimp only; omega)) _)), (by first | omega | (simp only [World.heap_drewN, World.size_alloc, World.size_setCell, World.size_drew]; omega)), (by first | omega | (simp only [World.heap_drewN, World.size_alloc, World.size_setCell, World.size_drew]; omega)), (by go_simp), (by go_simp)⟩
                    · have g1 : decide ((0 : Int) < (n6 : Int)) = true := by rw [decide_eq_true_iff]; omega
                      go_wp2_with fail
                      refine wp_loop_rounds 1 ?_
                      rw [rounds_succ]
                      go_wp2_with fail
                      go_meet
                      exact ⟨rfl, (by repeat (first | exact hB11 | exact Below.refl _ _ | refine balloc ?_ _ | refine Below.drew ?_ | refine below_drewN ?_ _ | refine below_set ?_ (by first | omega | (dsimp only; omega)) _)), (by first | omega | (simp only [World.heap_drewN, World.size_alloc, World.size_setCell, World.size_drew]; omega)), (by first | omega | (simp only [World.heap_drewN, World.size_alloc, World.size_setCell, World.size_drew]; omega)), (by go_simp), (by go_simp)⟩
                  · subst e1 e2
                    replace e3 := Lib.hid e3
                    replace e4 := Lib.hid e4
                    replace e5 := Lib.hid e5
                    replace hI := Lib.hid hI
                    clear h8 h9 h10 kSg
                    go_wp2_with fail
                    go_loopw [17, 25, 26] (fun e i o wr => ∃ q : Nat, q ≤ ss.length ∧ i = .int .i64 q ∧ ((q ≤ q0 ∧ e = .int .i64 0) ∨ (q0 < ss.length ∧ q = q0 + 1 ∧ e = .int .i64 E5)) ∧ Below w11.heap.size w11 wr) (fun _ i _ _ => ss.length - (intOf i).toNat)
                    case atStart => exact ⟨0, Nat.zero_le _, rfl, .inl ⟨Nat.zero_le _, rfl⟩, Below.refl _ _⟩
                    case round =>
                      obtain ⟨q, hq, rfl, hcase, hbr⟩ := hrel
                      have hBr : Below w.heap.size w wr := below_seq (by repeat (first | exact hB11 | exact Below.refl _ _ | refine balloc ?_ _ | refine Below.drew ?_ | refine below_drewN ?_ _ | refine below_set ?_ (by first | omega | (dsimp only; omega)) _)) hbr
                      rcases hcase with ⟨hqk, rfl⟩ | ⟨hkm, rfl, rfl⟩
                      · by_cases hqm : q < ss.length
                        · obtain ⟨b6, o6, rfl, hs⟩ := hI.out (by omega)
                          have l1 := (hs.below hBr).c q hqm
                          have l4 := (hs.below hBr).lt
                          clear hs
                          by_cases hqk2 : q < q0
                          · have ho := e3.out q hqm hqk2
                            clear e4 e5
                            generalize ss[q] = A at *
                            obtain ⟨bA, hbA⟩ : ∃ b, resB A = b := ⟨_, rfl⟩
                            have hbA' := Lib.hid hbA
                            rw [hbA] at ho
                            clear hbA
                            cases bA
                            · have hqa : (q : Int) = at' := by rcases ho with h | h; exact absurd h (by decide); exact h
                              have g2 : ((q : Int) != at') = false := by rw [hqa]; simp
                              clear ho hqa
                              go_wp2_with fail
                              refine (rRest_b A false _ hbA').mono ?_; rintro e w' ⟨rfl, rfl⟩
                              clear l1 l4
                              go_wp2
                              go_roundw
                              case rel => exact ⟨q + 1, by omega, by go_num, .inl ⟨by omega, rfl⟩, hbr⟩
                              case measure => simp [intOf]; omega
                            · clear ho
                              go_wp2_with fail
                              refine (rRest_b A true _ hbA').mono ?_; rintro e w' ⟨rfl, rfl⟩
                              clear l1 l4
                              go_wp2
                              go_roundw
                              case rel => exact ⟨q + 1, by omega, by go_num, .inl ⟨by omega, rfl⟩, hbr⟩
                              case measure => simp [intOf]; omega
                          · obtain rfl : q = q0 := by omega
                            obtain ⟨hb0, hne, he5⟩ := e4.out hqm
                            have g2 : ((q : Int) != at') = true := by rw [bne_iff_ne]; exact hne
                            generalize ss[q] = A at *
                            replace hb0 := Lib.hid hb0
                            clear e3 e4 e5 hne
                            subst he5
                            go_wp2_with fail
                            refine (rRest_b A false _ hb0).mono ?_; rintro e w' ⟨rfl, rfl⟩
                            clear l1 l4
                            go_wp2
                            go_roundw
                            case rel => exact ⟨q + 1, by omega, by go_num, .inr ⟨by omega, rfl, rfl⟩, hbr⟩
                            case measure => simp [intOf]; omega
                        · have he5 : E5 = 0 := e5.out (by omega)
                          have g2 : decide ((q : Int) < (ss.length : Int)) = false := by rw [decide_eq_false_iff_not]; omega
                          clear e3 e4 e5
                          subst he5
                          obtain ⟨hcr, hfr⟩ := bcell hbr
                          have zr := hbr.size
                          go_wp2_with fail
                          go_meet
                          exact ⟨rfl, (by repeat (first | exact hBr | exact Below.refl _ _ | refine balloc ?_ _ | refine Below.drew ?_ | refine below_drewN ?_ _ | refine below_set ?_ (by first | omega | (dsimp only; omega)) _)), (by first | omega | (simp only [World.heap_drewN, World.size_alloc, World.size_setCell, World.size_drew]; omega)), (by first | omega | (simp only [World.heap_drewN, World.size_alloc, World.size_setCell, World.size_drew]; omega)), (by go_simp), (by go_simp)⟩
                      · obtain ⟨hb0, hne, he5⟩ := e4.out hkm
                        subst he5
                        clear e3 e4 e5
                        obtain ⟨hcr, hfr⟩ := bcell hbr
                        have zr := hbr.size
                        rcases Nat.lt_or_ge (q0 + 1) ss.length with hl | hl
                        · have g2 : decide (((q0 + 1 : Nat) : Int) < (ss.length : Int)) = true := by rw [decide_eq_true_iff]; omega
                          go_wp2_with fail
                          go_meet
                          exact ⟨rfl, (by repeat (first | exact hBr | exact Below.refl _ _ | refine balloc ?_ _ | refine Below.drew ?_ | refine below_drewN ?_ _ | refine below_set ?_ (by first | omega | (dsimp only; omega)) _)), (by first | omega | (simp only [World.heap_drewN, World.size_alloc, World.size_setCell, World.size_drew]; omega)), (by first | omega | (simp only [World.heap_drewN, World.size_alloc, World.size_setCell, World.size_drew]; omega)), (by go_simp), (by go_simp)⟩
                        · have g2 : decide (((q0 + 1 : Nat) : Int) < (ss.length : Int)) = false := by rw [decide_eq_false_iff_not]; omega
                          go_wp2_with fail
                          go_meet
                          exact ⟨rfl, (by repeat (first | exact hBr | exact Below.refl _ _ | refine balloc ?_ _ | refine Below.drew ?_ | refine below_drewN ?_ _ | refine below_set ?_ (by first | omega | (dsimp only; omega)) _)), (by first | omega | (simp only [World.heap_drewN, World.size_alloc, World.size_setCell, World.size_drew]; omega)), (by first | omega | (simp only [World.heap_drewN, World.size_alloc, World.size_setCell, World.size_drew]; omega)), (by go_simp), (by go_simp)⟩
                case rest =>
                  obtain ⟨w12, hwq⟩ : ∃ x, x = wc := ⟨_, rfl⟩
                  subst hwq
                  obtain ⟨rfl, hB12, s12_0, s12_1, m12_0_0, m12_0_1⟩ := hcut
                  clear m11_0_0 m11_0_1
                  clear h8
                  go_upto_if 129 with fail
                  go_cut [17, 27] from 130 to 137 (fun s17 s27 wx => s17 = .int .i64 E6 ∧ Below w.heap.size w wx ∧ w.heap.size < wx.heap.size ∧ w.heap.size + 1 < wx.heap.size ∧ wx.cell? ⟨w.heap.size + 1, 0, none⟩ = some (.int .i64 C) ∧ wx.cell? ⟨w.heap.size + 1, 1, none⟩ = some (.slice a7 n7 c7))
                  case first =>
                    rcases h9.out with ⟨e1, e2⟩ | ⟨e1, K, A, p, b, off, xa, xb, hK, rfl, hp, rfl, hA, e2⟩
                    · subst e2
                      clear h9 h10
                      go_wp2_with fail
                      go_meet
                      exact ⟨rfl, (by repeat (first | exact hB12 | exact Below.refl _ _ | refine balloc ?_ _ | refine Below.drew ?_ | refine below_drewN ?_ _ | refine below_set ?_ (by first | omega | (dsimp only; omega)) _)), (by first | omega | (simp only [World.heap_drewN, World.size_alloc, World.size_setCell, World.size_drew]; omega)), (by first | omega | (simp only [World.heap_drewN, World.size_alloc, World.size_setCell, World.size_drew]; omega)), (by go_simp), (by go_simp)⟩
                    · subst e1
                      clear h9 h10
                      replace hK := Lib.hid hK
                      replace hA := Lib.hid hA
                      have g0 : (0 : Int) ≤ (p : Int) := by omega
                      have g1 : (p : Int) < (n0 : Int) := by omega
                      go_wp2_with fail
                      refine (refBy_e x K _ xa xb hK).mono ?_; rintro e w13 ⟨rfl, hb⟩
                      obtain ⟨hc13, hf13⟩ := bcell hb
                      have z13 := hb.size
                      try simp only [World.size_alloc, World.size_setCell, World.size_drew] at z13
                      have s13_0 : w.heap.size < w13.heap.size := by omega
                      have s13_1 : w.heap.size + 1 < w13.heap.size := by omega
                      have hB13 : Below w.heap.size w w13 := below_seq (by repeat (first | exact hB12 | exact Below.refl _ _ | refine balloc ?_ _ | refine Below.drew ?_ | refine below_drewN ?_ _ | refine below_set ?_ (by first | omega | (dsimp only; omega)) _)) hb
                      clear hb
                      have m13_0_0 : w13.cell? ⟨w.heap.size + 1, 0, none⟩ = some (.int .i64 C) := by go_simp
                      have m13_0_1 : w13.cell? ⟨w.heap.size + 1, 1, none⟩ = some (.slice a7 n7 c7) := by go_simp
                      clear m12_0_0 m12_0_1
                      clear hc13
                      obtain ⟨l1, l2, l3, l4⟩ := hA.out _ (by repeat (first | exact hB13 | exact Below.refl _ _ | refine balloc ?_ _ | refine Below.drew ?_ | refine below_drewN ?_ _ | refine below_set ?_ (by first | omega | (dsimp only; omega)) _))
                      go_wp2_with fail
                      rcases e2 with ⟨hb, e2⟩ | ⟨hb, e2⟩
                      · subst e2
                        go_quiet (fail)
                        go_wp2_with fail
                        go_meet
                        exact ⟨rfl, (by repeat (first | exact hB13 | exact Below.refl _ _ | refine balloc ?_ _ | refine Below.drew ?_ | refine below_drewN ?_ _ | refine below_set ?_ (by first | omega | (dsimp only; omega)) _)), (by first | omega | (simp only [World.heap_drewN, World.size_alloc, World.size_setCell, World.size_drew]; omega)), (by first | omega | (simp only [World.heap_drewN, World.size_alloc, World.size_setCell, World.size_drew]; omega)), (by go_simp), (by go_simp)⟩
                      · subst e2
                        go_quiet (fail)
                        go_wp2_with fail
                        go_meet
                        exact ⟨rfl, (by repeat (first | exact hB13 | exact Below.refl _ _ | refine balloc ?_ _ | refine Below.drew ?_ | refine below_drewN ?_ _ | refine below_set ?_ (by first | omega | (dsimp only; omega)) _)), (by first | omega | (simp only [World.heap_drewN, World.size_alloc, World.size_setCell, World.size_drew]; omega)), (by first | omega | (simp only [World.heap_drewN, World.size_alloc, World.size_setCell, World.size_drew]; omega)), (by go_simp), (by go_simp)⟩
                  case rest =>
                    obtain ⟨w13, hwq⟩ : ∃ x, x = wc := ⟨_, rfl⟩
                    subst hwq
                    obtain ⟨rfl, hB13, s13_0, s13_1, m13_0_0, m13_0_1⟩ := hcut
                    clear m12_0_0 m12_0_1
                    clear h9
                    go_upto_if 139 with fail
                    go_cut [29] from 140 to 146 (fun s29 wx => (∃ v, wx.cell? ⟨w13.heap.size, 0, none⟩ = some (.int .i64 CW) ∧ wx.cell? ⟨w13.heap.size, 1, none⟩ = some v ∧ IntSl wx v WL) ∧ Below w.heap.size w wx ∧ w.heap.size < wx.heap.size ∧ w.heap.size + 1 < wx.heap.size ∧ w13.heap.size < wx.heap.size ∧ wx.cell? ⟨w.heap.size + 1, 0, none⟩ = some (.int .i64 C) ∧ wx.cell? ⟨w.heap.size + 1, 1, none⟩ = some (.slice a7 n7 c7))
                    case first =>
                      rcases h10.out with ⟨e1, e2, e3⟩ | ⟨e1, e2⟩
                      · subst e2 e3
                        clear h10
                        go_wp2_with fail
                        go_meet
                        exact ⟨⟨_, by go_simp, by go_simp, IntSl.nil_ _⟩, (by repeat (first | exact hB13 | exact Below.refl _ _ | refine balloc ?_ _ | refine Below.drew ?_ | refine below_drewN ?_ _ | refine below_set ?_ (by first | omega | (dsimp only; omega)) _)), (by first | omega | (simp only [World.heap_drewN, World.size_alloc, World.size_setCell, World.size_drew]; omega)), (by first | omega | (simp only [World.heap_drewN, World.size_alloc, World.size_setCell, World.size_drew]; omega)), (by first | omega | (simp only [World.heap_drewN, World.size_alloc, World.size_setCell, World.size_drew]; omega)), (by go_simp), (by go_simp)⟩
                      · subst e1
                        replace e2 := Lib.hid e2
                        clear h10
                        go_wp2_with fail
                        refine (e2.out _ (by repeat (first | exact hB13 | exact Below.refl _ _ | refine balloc ?_ _ | refine Below.drew ?_ | refine below_drewN ?_ _ | refine below_set ?_ (by first | omega | (dsimp only; omega)) _))).mono ?_; rintro e w14 ⟨_, rfl, ⟨aw, cw, rfl, hx⟩, hb⟩; replace hx := Lib.hid (show IntF _ _ (.slice aw WL.length cw) WL from ⟨aw, cw, rfl, hx⟩)
                        obtain ⟨hc14, hf14⟩ := bcell hb
                        have z14 := hb.size
                        try simp only [World.size_alloc, World.size_setCell, World.size_drew] at z14
                        have s14_0 : w.heap.size < w14.heap.size := by omega
                        have s14_1 : w.heap.size + 1 < w14.heap.size := by omega
                        have s14_2 : w13.heap.size < w14.heap.size := by omega
                        have hB14 : Below w.heap.size w w14 := below_seq (by repeat (first | exact hB13 | exact Below.refl _ _ | refine balloc ?_ _ | refine Below.drew ?_ | refine below_drewN ?_ _ | refine below_set ?_ (by first | omega | (dsimp only; omega)) _)) hb
                        clear hb
                        have m14_0_0 : w14.cell? ⟨w.heap.size + 1, 0, none⟩ = some (.int .i64 C) := by go_simp
                        have m14_0_1 : w14.cell? ⟨w.heap.size + 1, 1, none⟩ = some (.slice a7 n7 c7) := by go_simp
                        have m14_1_0 : w14.cell? ⟨w13.heap.size, 0, none⟩ = some (.int .i64 0) := by go_simp
                        have m14_1_1 : w14.cell? ⟨w13.heap.size, 1, none⟩ = some (.slice none 0 0) := by go_simp
                        clear m13_0_0 m13_0_1
                        clear hc14
                        go_wp2_with fail
                        go_meet
                        exact ⟨⟨_, by go_simp, by go_simp, (IntF.set (IntF.set hx.out (by simp)) (by simp)).sl⟩, (by repeat (first | exact hB14 | exact Below.refl _ _ | refine balloc ?_ _ | refine Below.drew ?_ | refine below_drewN ?_ _ | refine below_set ?_ (by first | omega | (dsimp only; omega)) _)), (by first | omega | (simp only [World.heap_drewN, World.size_alloc, World.size_setCell, World.size_drew]; omega)), (by first | omega | (simp only [World.heap_drewN, World.size_alloc, World.size_setCell, World.size_drew]; omega)), (by first | omega | (simp only [World.heap_drewN, World.size_alloc, World.size_setCell, World.size_drew]; omega)), (by go_simp), (by go_simp)⟩
                    case rest =>
                      obtain ⟨w14, hwq⟩ : ∃ x, x = wc := ⟨_, rfl⟩
                      subst hwq
                      obtain ⟨⟨vw, q0', q1', hx⟩, hB14, s14_0, s14_1, s14_2, m14_0_0, m14_0_1⟩ := hcut
                      clear m13_0_0 m13_0_1
                      clear h10
                      replace hx := Lib.hid hx
                      go_wp2_with fail
                      refine (kSg.out _ (by repeat (first | exact hB14 | exact Below.refl _ _ | refine balloc ?_ _ | refine Below.drew ?_ | refine below_drewN ?_ _ | refine below_set ?_ (by first | omega | (dsimp only; omega)) _))).mono ?_; rintro e w15 ⟨_, rfl, ⟨ay, cy, rfl, hy⟩, hb⟩; replace hx := Lib.hid (hx.out.below hb); replace hy := Lib.hid (show IntSl _ (.slice ay WL.length cy) WL from ⟨ay, cy, rfl, hy⟩)
                      obtain ⟨hc15, hf15⟩ := bcell hb
                      have z15 := hb.size
                      try simp only [World.size_alloc, World.size_setCell, World.size_drew] at z15
                      have s15_0 : w.heap.size < w15.heap.size := by omega
                      have s15_1 : w.heap.size + 1 < w15.heap.size := by omega
                      have s15_2 : w13.heap.size < w15.heap.size := by omega
                      have hB15 : Below w.heap.size w w15 := below_seq (by repeat (first | exact hB14 | exact Below.refl _ _ | refine balloc ?_ _ | refine Below.drew ?_ | refine below_drewN ?_ _ | refine below_set ?_ (by first | omega | (dsimp only; omega)) _)) hb
                      clear hb
                      have m15_0_0 : w15.cell? ⟨w.heap.size + 1, 0, none⟩ = some (.int .i64 C) := by go_simp
                      have m15_0_1 : w15.cell? ⟨w.heap.size + 1, 1, none⟩ = some (.slice a7 n7 c7) := by go_simp
                      have m15_1_0 : w15.cell? ⟨w13.heap.size, 0, none⟩ = some (.int .i64 CW) := by go_simp
                      have m15_1_1 : w15.cell? ⟨w13.heap.size, 1, none⟩ = some (vw) := by go_simp
                      clear m14_0_0 m14_0_1
                      clear hc15
                      clear q0' q1'
                      go_wp2_with fail
                      refine (error_same (errV E6) E6 _ (hE.below (by repeat (first | exact hB15 | exact Below.refl _ _ | refine balloc ?_ _ | refine Below.drew ?_ | refine below_drewN ?_ _ | refine below_set ?_ (by first | omega | (dsimp only; omega)) _))) (Lib.hid rfl)).mono ?_; rintro e w16 ⟨rfl, hb⟩; replace hx := Lib.hid (hx.out.below (below_seq (below_alloc _ _) hb)); replace hy := Lib.hid (hy.out.below (below_seq (below_alloc _ _) hb))
                      obtain ⟨hc16, hf16⟩ := bcell hb
                      have z16 := hb.size
                      try simp only [World.size_alloc, World.size_setCell, World.size_drew] at z16
                      have s16_0 : w.heap.size < w16.heap.size := by omega
                      have s16_1 : w.heap.size + 1 < w16.heap.size := by omega
                      have s16_2 : w13.heap.size < w16.heap.size := by omega
                      have s16_3 : w15.heap.size < w16.heap.size := by omega
                      have hB16 : Below w.heap.size w w16 := below_seq (by repeat (first | exact hB15 | exact Below.refl _ _ | refine balloc ?_ _ | refine Below.drew ?_ | refine below_drewN ?_ _ | refine below_set ?_ (by first | omega | (dsimp only; omega)) _)) hb
                      clear hb
                      have m16_0_0 : w16.cell? ⟨w.heap.size + 1, 0, none⟩ = some (.int .i64 C) := by go_simp
                      have m16_0_1 : w16.cell? ⟨w.heap.size + 1, 1, none⟩ = some (.slice a7 n7 c7) := by go_simp
                      have m16_1_0 : w16.cell? ⟨w13.heap.size, 0, none⟩ = some (.int .i64 CW) := by go_simp
                      have m16_1_1 : w16.cell? ⟨w13.heap.size, 1, none⟩ = some (vw) := by go_simp
                      have m16_2_0 : w16.cell? ⟨w15.heap.size, 0, none⟩ = some (.int .i64 CW) := by go_simp
                      have m16_2_1 : w16.cell? ⟨w15.heap.size, 1, none⟩ = some (.slice ay WL.length cy) := by go_simp
                      clear m15_0_0 m15_0_1 m15_1_0 m15_1_1
                      clear hc16
                      go_wp2_with fail
                      refine (ints_same WL _ _ _ hWl.out hy.out hx.out).mono ?_; rintro e w17 ⟨rfl, hb⟩
                      obtain ⟨hc17, hf17⟩ := bcell hb
                      have z17 := hb.size
                      try simp only [World.size_alloc, World.size_setCell, World.size_drew] at z17
                      have s17_0 : w.heap.size < w17.heap.size := by omega
                      have s17_1 : w.heap.size + 1 < w17.heap.size := by omega
                      have s17_2 : w13.heap.size < w17.heap.size := by omega
                      have s17_3 : w15.heap.size < w17.heap.size := by omega
                      have hB17 : Below w.heap.size w w17 := below_seq (by repeat (first | exact hB16 | exact Below.refl _ _ | refine balloc ?_ _ | refine Below.drew ?_ | refine below_drewN ?_ _ | refine below_set ?_ (by first | omega | (dsimp only; omega)) _)) hb
                      clear hb
                      have m17_0_0 : w17.cell? ⟨w.heap.size + 1, 0, none⟩ = some (.int .i64 C) := by go_simp
                      have m17_0_1 : w17.cell? ⟨w.heap.size + 1, 1, none⟩ = some (.slice a7 n7 c7) := by go_simp
                      have m17_1_0 : w17.cell? ⟨w13.heap.size, 0, none⟩ = some (.int .i64 CW) := by go_simp
                      have m17_1_1 : w17.cell? ⟨w13.heap.size, 1, none⟩ = some (vw) := by go_simp
                      have m17_2_0 : w17.cell? ⟨w15.heap.size, 0, none⟩ = some (.int .i64 CW) := by go_simp
                      have m17_2_1 : w17.cell? ⟨w15.heap.size, 1, none⟩ = some (.slice ay WL.length cy) := by go_simp
                      clear m16_0_0 m16_0_1 m16_1_0 m16_1_1 m16_2_0 m16_2_1
                      clear hc17
                      clear hx hy kSg
                      go_upto_region 34 with fail
                      go_cut [183] from 174 to 182 (fun s183 wx => s183 = .bool B183 ∧ Below w.heap.size w wx ∧ w.heap.size < wx.heap.size ∧ w.heap.size + 1 < wx.heap.size ∧ w13.heap.size < wx.heap.size ∧ w15.heap.size < wx.heap.size ∧ wx.cell? ⟨w.heap.size + 1, 0, none⟩ = some (.int .i64 C) ∧ wx.cell? ⟨w.heap.size + 1, 1, none⟩ = some (.slice a7 n7 c7))
                      case first =>
                        rcases h11.out with ⟨e1, e2⟩ | ⟨e1, e2⟩
                        · subst e1
                          clear h11
                          go_wp2_with fail
                          go_meet
                          exact ⟨rfl, (by repeat (first | exact hB17 | exact Below.refl _ _ | refine balloc ?_ _ | refine Below.drew ?_ | refine below_drewN ?_ _ | refine below_set ?_ (by first | omega | (dsimp only; omega)) _)), (by first | omega | (simp only [World.heap_drewN, World.size_alloc, World.size_setCell, World.size_drew]; omega)), (by first | omega | (simp only [World.heap_drewN, World.size_alloc, World.size_setCell, World.size_drew]; omega)), (by first | omega | (simp only [World.heap_drewN, World.size_alloc, World.size_setCell, World.size_drew]; omega)), (by first | omega | (simp only [World.heap_drewN, World.size_alloc, World.size_setCell, World.size_drew]; omega)), (by go_simp), (by go_simp)⟩
                        · subst e2
                          clear h11
                          go_wp2_with fail
                          go_meet
                          exact ⟨rfl, (by repeat (first | exact hB17 | exact Below.refl _ _ | refine balloc ?_ _ | refine Below.drew ?_ | refine below_drewN ?_ _ | refine below_set ?_ (by first | omega | (dsimp only; omega)) _)), (by first | omega | (simp only [World.heap_drewN, World.size_alloc, World.size_setCell, World.size_drew]; omega)), (by first | omega | (simp only [World.heap_drewN, World.size_alloc, World.size_setCell, World.size_drew]; omega)), (by first | omega | (simp only [World.heap_drewN, World.size_alloc, World.size_setCell, World.size_drew]; omega)), (by first | omega | (simp only [World.heap_drewN, World.size_alloc, World.size_setCell, World.size_drew]; omega)), (by go_simp), (by go_simp)⟩
                      case rest =>
                        obtain ⟨w18, hwq⟩ : ∃ x, x = wc := ⟨_, rfl⟩
                        subst hwq
                        obtain ⟨rfl, hB18, s18_0, s18_1, s18_2, s18_3, m18_0_0, m18_0_1⟩ := hcut
                        clear m17_0_0 m17_0_1 m17_1_0 m17_1_1 m17_2_0 m17_2_1
                        clear h11
                        go_upto_if 183 with fail
                        go_cut [22] from 184 to 184 (fun s22 wx => s22 = .int .i64 F1 ∧ Below w.heap.size w wx ∧ w.heap.size < wx.heap.size ∧ w.heap.size + 1 < wx.heap.size ∧ w13.heap.size < wx.heap.size ∧ w15.heap.size < wx.heap.size ∧ wx.cell? ⟨w.heap.size + 1, 0, none⟩ = some (.int .i64 C) ∧ wx.cell? ⟨w.heap.size + 1, 1, none⟩ = some (.slice a7 n7 c7))
                        case first =>
                          rcases h12.out with ⟨e1, e2⟩ | ⟨e1, e2⟩
                          · subst e1 e2
                            clear h12
                            go_wp2_with fail
                            go_meet
                            exact ⟨rfl, (by repeat (first | exact hB18 | exact Below.refl _ _ | refine balloc ?_ _ | refine Below.drew ?_ | refine below_drewN ?_ _ | refine below_set ?_ (by first | omega | (dsimp only; omega)) _)), (by first | omega | (simp only [World.heap_drewN, World.size_alloc, World.size_setCell, World.size_drew]; omega)), (by first | omega | (simp only [World.heap_drewN, World.size_alloc, World.size_setCell, World.size_drew]; omega)), (by first | omega | (simp only [World.heap_drewN, World.size_alloc, World.size_setCell, World.size_drew]; omega)), (by first | omega | (simp only [World.heap_drewN, World.size_alloc, World.size_setCell, World.size_drew]; omega)), (by go_simp), (by go_simp)⟩
                          · subst e1 e2
                            clear h12
                            go_wp2_with fail
                            go_meet
                            exact ⟨rfl, (by repeat (first | exact hB18 | exact Below.refl _ _ | refine balloc ?_ _ | refine Below.drew ?_ | refine below_drewN ?_ _ | refine below_set ?_ (by first | omega | (dsimp only; omega)) _)), (by first | omega | (simp only [World.heap_drewN, World.size_alloc, World.size_setCell, World.size_drew]; omega)), (by first | omega | (simp only [World.heap_drewN, World.size_alloc, World.size_setCell, World.size_drew]; omega)), (by first | omega | (simp only [World.heap_drewN, World.size_alloc, World.size_setCell, World.size_drew]; omega)), (by first | omega | (simp only [World.heap_drewN, World.size_alloc, World.size_setCell, World.size_drew]; omega)), (by go_simp), (by go_simp)⟩
                        case rest =>
                          obtain ⟨w19, hwq⟩ : ∃ x, x = wc := ⟨_, rfl⟩
                          subst hwq
                          obtain ⟨rfl, hB19, s19_0, s19_1, s19_2, s19_3, m19_0_0, m19_0_1⟩ := hcut
                          clear m18_0_0 m18_0_1
                          clear h12
                          go_wp2_with fail
                          refine (rRest_b C BC _ jBC).mono ?_; rintro e w' ⟨rfl, rfl⟩
                          go_upto_region 37 with fail
                          go_cut [192] from 187 to 191 (fun s192 wx => s192 = .bool B192 ∧ Below w.heap.size w wx ∧ w.heap.size < wx.heap.size ∧ w.heap.size + 1 < wx.heap.size ∧ w13.heap.size < wx.heap.size ∧ w15.heap.size < wx.heap.size ∧ wx.cell? ⟨w.heap.size + 1, 0, none⟩ = some (.int .i64 C) ∧ wx.cell? ⟨w.heap.size + 1, 1, none⟩ = some (.slice a7 n7 c7))
                          case first =>
                            rcases h13.out with ⟨e1, e2, e3⟩ | ⟨e1, e2, e3⟩ | ⟨e1, e2⟩
                            · subst e1 e2 e3
                              clear h13
                              go_wp2_with fail
                              go_meet
                              exact ⟨rfl, (by repeat (first | exact hB19 | exact Below.refl _ _ | refine balloc ?_ _ | refine Below.drew ?_ | refine below_drewN ?_ _ | refine below_set ?_ (by first | omega | (dsimp only; omega)) _)), (by first | omega | (simp only [World.heap_drewN, World.size_alloc, World.size_setCell, World.size_drew]; omega)), (by first | omega | (simp only [World.heap_drewN, World.size_alloc, World.size_setCell, World.size_drew]; omega)), (by first | omega | (simp only [World.heap_drewN, World.size_alloc, World.size_setCell, World.size_drew]; omega)), (by first | omega | (simp only [World.heap_drewN, World.size_alloc, World.size_setCell, World.size_drew]; omega)), (by go_simp), (by go_simp)⟩
                            · subst e1 e2 e3
                              clear h13
                              go_wp2_with fail
                              go_meet
                              exact ⟨rfl, (by repeat (first | exact hB19 | exact Below.refl _ _ | refine balloc ?_ _ | refine Below.drew ?_ | refine below_drewN ?_ _ | refine below_set ?_ (by first | omega | (dsimp only; omega)) _)), (by first | omega | (simp only [World.heap_drewN, World.size_alloc, World.size_setCell, World.size_drew]; omega)), (by first | omega | (simp only [World.heap_drewN, World.size_alloc, World.size_setCell, World.size_drew]; omega)), (by first | omega | (simp only [World.heap_drewN, World.size_alloc, World.size_setCell, World.size_drew]; omega)), (by first | omega | (simp only [World.heap_drewN, World.size_alloc, World.size_setCell, World.size_drew]; omega)), (by go_simp), (by go_simp)⟩
                            · subst e2
                              clear h13
                              go_wp2_with fail
                              go_meet
                              exact ⟨rfl, (by repeat (first | exact hB19 | exact Below.refl _ _ | refine balloc ?_ _ | refine Below.drew ?_ | refine below_drewN ?_ _ | refine below_set ?_ (by first | omega | (dsimp only; omega)) _)), (by first | omega | (simp only [World.heap_drewN, World.size_alloc, World.size_setCell, World.size_drew]; omega)), (by first | omega | (simp only [World.heap_drewN, World.size_alloc, World.size_setCell, World.size_drew]; omega)), (by first | omega | (simp only [World.heap_drewN, World.size_alloc, World.size_setCell, World.size_drew]; omega)), (by first | omega | (simp only [World.heap_drewN, World.size_alloc, World.size_setCell, World.size_drew]; omega)), (by go_simp), (by go_simp)⟩
                          case rest =>
                            obtain ⟨w20, hwq⟩ : ∃ x, x = wc := ⟨_, rfl⟩
                            subst hwq
                            obtain ⟨rfl, hB20, s20_0, s20_1, s20_2, s20_3, m20_0_0, m20_0_1⟩ := hcut
                            clear m19_0_0 m19_0_1
                            clear h13
                            go_upto_if 192 with fail
                            go_cut [22] from 193 to 193 (fun s22 wx => s22 = .int .i64 F2 ∧ Below w.heap.size w wx ∧ w.heap.size < wx.heap.size ∧ w.heap.size + 1 < wx.heap.size ∧ w13.heap.size < wx.heap.size ∧ w15.heap.size < wx.heap.size ∧ wx.cell? ⟨w.heap.size + 1, 0, none⟩ = some (.int .i64 C) ∧ wx.cell? ⟨w.heap.size + 1, 1, none⟩ = some (.slice a7 n7 c7))
                            case first =>
                              rcases h14.out with ⟨e1, e2⟩ | ⟨e1, e2⟩
                              · subst e1 e2
                                clear h14
                                go_wp2_with fail
                                go_meet
                                exact ⟨rfl, (by repeat (first | exact hB20 | exact Below.refl _ _ | refine balloc ?_ _ | refine Below.drew ?_ | refine below_drewN ?_ _ | refine below_set ?_ (by first | omega | (dsimp only; omega)) _)), (by first | omega | (simp only [World.heap_drewN, World.size_alloc, World.size_setCell, World.size_drew]; omega)), (by first | omega | (simp only [World.heap_drewN, World.size_alloc, World.size_setCell, World.size_drew]; omega)), (by first | omega | (simp only [World.heap_drewN, World.size_alloc, World.size_setCell, World.size_drew]; omega)), (by first | omega | (simp only [World.heap_drewN, World.size_alloc, World.size_setCell, World.size_drew]; omega)), (by go_simp), (by go_simp)⟩
                              · subst e1 e2
                                clear h14
                                go_wp2_with fail
                                go_meet
                                exact ⟨rfl, (by repeat (first | exact hB20 | exact Below.refl _ _ | refine balloc ?_ _ | refine Below.drew ?_ | refine below_drewN ?_ _ | refine below_set ?_ (by first | omega | (dsimp only; omega)) _)), (by first | omega | (simp only [World.heap_drewN, World.size_alloc, World.size_setCell, World.size_drew]; omega)), (by first | omega | (simp only [World.heap_drewN, World.size_alloc, World.size_setCell, World.size_drew]; omega)), (by first | omega | (simp only [World.heap_drewN, World.size_alloc, World.size_setCell, World.size_drew]; omega)), (by first | omega | (simp only [World.heap_drewN, World.size_alloc, World.size_setCell, World.size_drew]; omega)), (by go_simp), (by go_simp)⟩
                            case rest =>
                              obtain ⟨w21, hwq⟩ : ∃ x, x = wc := ⟨_, rfl⟩
                              subst hwq
                              obtain ⟨rfl, hB21, s21_0, s21_1, s21_2, s21_3, m21_0_0, m21_0_1⟩ := hcut
                              clear m20_0_0 m20_0_1
                              clear h14
                              go_upto_block 2 with fail
                              go_cut [22, 32, 33] from 193 to 211 (fun s22 s32 s33 wx => s22 = .int .i64 F3 ∧ Below w.heap.size w wx ∧ w.heap.size < wx.heap.size ∧ w.heap.size + 1 < wx.heap.size ∧ w13.heap.size < wx.heap.size ∧ w15.heap.size < wx.heap.size ∧ wx.cell? ⟨w.heap.size + 1, 0, none⟩ = some (.int .i64 C) ∧ wx.cell? ⟨w.heap.size + 1, 1, none⟩ = some (.slice a7 n7 c7))
                              case first =>
                                rcases h15.out with ⟨e1, e2⟩ | ⟨e1, ss, q0, e2, hI, hq0, e3, e4, e5⟩
                                · subst e2
                                  clear h15 h16
                                  rcases Nat.eq_zero_or_pos n7 with hm0 | hm0
                                  · have g1 : decide ((0 : Int) < (n7 : Int)) = false := by rw [decide_eq_false_iff_not]; omega
                                    go_wp2_with fail
                                    refine wp_loop_rounds 1 ?_
                                    rw [rounds_succ]
                                    go_wp2_with fail
                                    go_meet
                                    exact ⟨rfl, (by repeat (first | exact hB21 | exact Below.refl _ _ | refine balloc ?_ _ | refine Below.drew ?_ | refine below_drewN ?_ _ | refine below_set ?_ (by first | omega | (dsimp only; omega)) _)), (by first | omega | (simp only [World.heap_drewN, World.size_alloc, World.size_setCell, World.size_drew]; omega)), (by first | omega | (simp only [World.heap_drewN, World.size_alloc, World.size_setCell, World.size_drew]; omega)), (by first | omega | (simp only [World.heap_drewN, World.size_alloc, World.size_setCell, World.size_drew]; omega)), (by first | omega | (simp only [World.heap_drewN, World.size_alloc, World.size_setCell, World.size_drew]; omega)), (by go_simp), (by go_simp)⟩
                                  · have g1 : decide ((0 : Int) < (n7 : Int)) = true := by rw [decide_eq_true_iff]; omega
                                    go_wp2_with fail
                                    refine wp_loop_rounds 1 ?_
                                    rw [rounds_succ]
                                    go_wp2_with fail
                                    go_meet
                                    exact ⟨rfl, (by repeat (first | exact hB21 | exact Below.refl _ _ | refine balloc ?_ _ | refine Below.drew ?_ | refine below_drewN ?_ _ | refine below_set ?_ (by first | omega | (dsimp only; omega)) _)), (by first | omega | (simp only [World.heap_drewN, World.size_alloc, World.size_setCell, World.size_drew]; omega)), (by first | omega | (simp only [World.heap_drewN, World.size_alloc, World.size_setCell, World.size_drew]; omega)), (by first | omega | (simp only [World.heap_drewN, World.size_alloc, World.size_setCell, World.size_drew]; omega)), (by first | omega | (simp only [World.heap_drewN, World.size_alloc, World.size_setCell, World.size_drew]; omega)), (by go_simp), (by go_simp)⟩
                                · subst e1 e2
                                  replace e3 := Lib.hid e3
                                  replace e4 := Lib.hid e4
                                  replace e5 := Lib.hid e5
                                  replace hI := Lib.hid hI
                                  clear h15 h16 kVer
                                  go_wp2_with fail
                                  go_loopw [22, 32, 33] (fun e i o wr => ∃ q : Nat, q ≤ ss.length ∧ i = .int .i64 q ∧ ((q ≤ q0 ∧ e = .int .i64 0) ∨ (q0 < ss.length ∧ q = q0 + 1 ∧ e = .int .i64 F3)) ∧ Below w21.heap.size w21 wr) (fun _ i _ _ => ss.length - (intOf i).toNat)
                                  case atStart => exact ⟨0, Nat.zero_le _, rfl, .inl ⟨Nat.zero_le _, rfl⟩, Below.refl _ _⟩
                                  case round =>
                                    obtain ⟨q, hq, rfl, hcase, hbr⟩ := hrel
                                    have hBr : Below w.heap.size w wr := below_seq (by repeat (first | exact hB21 | exact Below.refl _ _ | refine balloc ?_ _ | refine Below.drew ?_ | refine below_drewN ?_ _ | refine below_set ?_ (by first | omega | (dsimp only; omega)) _)) hbr
                                    obtain ⟨hcr, hfr⟩ := bcell hbr
                                    have zr := hbr.size
                                    rcases hcase with ⟨hqk, rfl⟩ | ⟨hkm, rfl, rfl⟩
                                    · by_cases hqm : q < ss.length
                                      · obtain ⟨b6, o6, rfl, hs⟩ := hI.out (by omega)
                                        have l1 := (hs.below hBr).c q hqm
                                        have l4 := (hs.below hBr).lt
                                        clear hs
                                        by_cases hqk2 : q < q0
                                        · have ho := Lib.hid (e3.out q hqm hqk2)
                                          clear e4 e5
                                          generalize ss[q] = A at *
                                          go_wp2_with fail
                                          refine (rRest_b A true _ ho).mono ?_; rintro e w' ⟨rfl, rfl⟩
                                          clear l1 l4
                                          go_wp2
                                          go_roundw
                                          case rel => exact ⟨q + 1, by omega, by go_num, .inl ⟨by omega, rfl⟩, hbr⟩
                                          case measure => simp [intOf]; omega
                                        · obtain rfl : q = q0 := by omega
                                          obtain ⟨hb0, he5⟩ := e4.out hqm
                                          generalize ss[q] = A at *
                                          replace hb0 := Lib.hid hb0
                                          clear e3 e4 e5
                                          subst he5
                                          go_wp2_with fail
                                          refine (rRest_b A false _ hb0).mono ?_; rintro e w' ⟨rfl, rfl⟩
                                          clear l1 l4
                                          go_wp2
                                          go_roundw
                                          case rel => exact ⟨q + 1, by omega, by go_num, .inr ⟨by omega, rfl, rfl⟩, hbr⟩
                                          case measure => simp [intOf]; omega
                                      · have he5 : F3 = 0 := e5.out (by omega)
                                        have g2 : decide ((q : Int) < (ss.length : Int)) = false := by rw [decide_eq_false_iff_not]; omega
                                        clear e3 e4 e5
                                        subst he5
                                        go_wp2_with fail
                                        go_meet
                                        exact ⟨rfl, (by repeat (first | exact hBr | exact Below.refl _ _ | refine balloc ?_ _ | refine Below.drew ?_ | refine below_drewN ?_ _ | refine below_set ?_ (by first | omega | (dsimp only; omega)) _)), (by first | omega | (simp only [World.heap_drewN, World.size_alloc, World.size_setCell, World.size_drew]; omega)), (by first | omega | (simp only [World.heap_drewN, World.size_alloc, World.size_setCell, World.size_drew]; omega)), (by first | omega | (simp only [World.heap_drewN, World.size_alloc, World.size_setCell, World.size_drew]; omega)), (by first | omega | (simp only [World.heap_drewN, World.size_alloc, World.size_setCell, World.size_drew]; omega)), (by go_simp), (by go_simp)⟩
                                    · obtain ⟨hb0, he5⟩ := e4.out hkm
                                      subst he5
                                      clear e3 e4 e5
                                      rcases Nat.lt_or_ge (q0 + 1) ss.length with hl | hl
                                      · have g2 : decide (((q0 + 1 : Nat) : Int) < (ss.length : Int)) = true := by rw [decide_eq_true_iff]; omega
                                        go_wp2_with fail
                                        go_meet
                                        exact ⟨rfl, (by repeat (first | exact hBr | exact Below.refl _ _ | refine balloc ?_ _ | refine Below.drew ?_ | refine below_drewN ?_ _ | refine below_set ?_ (by first | omega | (dsimp only; omega)) _)), (by first | omega | (simp only [World.heap_drewN, World.size_alloc, World.size_setCell, World.size_drew]; omega)), (by first | omega | (simp only [World.heap_drewN, World.size_alloc, World.size_setCell, World.size_drew]; omega)), (by first | omega | (simp only [World.heap_drewN, World.size_alloc, World.size_setCell, World.size_drew]; omega)), (by first | omega | (simp only [World.heap_drewN, World.size_alloc, World.size_setCell, World.size_drew]; omega)), (by go_simp), (by go_simp)⟩
                                      · have g2 : decide (((q0 + 1 : Nat) : Int) < (ss.length : Int)) = false := by rw [decide_eq_false_iff_not]; omega
                                        go_wp2_with fail
                                        go_meet
                                        exact ⟨rfl, (by repeat (first | exact hBr | exact Below.refl _ _ | refine balloc ?_ _ | refine Below.drew ?_ | refine below_drewN ?_ _ | refine below_set ?_ (by first | omega | (dsimp only; omega)) _)), (by first | omega | (simp only [World.heap_drewN, World.size_alloc, World.size_setCell, World.size_drew]; omega)), (by first | omega | (simp only [World.heap_drewN, World.size_alloc, World.size_setCell, World.size_drew]; omega)), (by first | omega | (simp only [World.heap_drewN, World.size_alloc, World.size_setCell, World.size_drew]; omega)), (by first | omega | (simp only [World.heap_drewN, World.size_alloc, World.size_setCell, World.size_drew]; omega)), (by go_simp), (by go_simp)⟩
                              case rest =>
                                obtain ⟨w22, hwq⟩ : ∃ x, x = wc := ⟨_, rfl⟩
                                subst hwq
                                obtain ⟨rfl, hB22, s22_0, s22_1, s22_2, s22_3, m22_0_0, m22_0_1⟩ := hcut
                                clear m21_0_0 m21_0_1
                                clear h15
                                go_upto_region 45 with fail
                                go_cut [34] from 212 to 219 (fun s34 wx => s34 = .bool RT ∧ Below w.heap.size w wx ∧ w.heap.size < wx.heap.size ∧ w.heap.size + 1 < wx.heap.size ∧ w13.heap.size < wx.heap.size ∧ w15.heap.size < wx.heap.size ∧ wx.cell? ⟨w.heap.size + 1, 0, none⟩ = some (.int .i64 C) ∧ wx.cell? ⟨w.heap.size + 1, 1, none⟩ = some (.slice a7 n7 c7))
                                case first =>
                                  rcases h16.out with ⟨e1, e2⟩ | ⟨e1, e2⟩
                                  · subst e2
                                    clear h16
                                    go_wp2_with fail
                                    go_meet
                                    exact ⟨rfl, (by repeat (first | exact hB22 | exact Below.refl _ _ | refine balloc ?_ _ | refine Below.drew ?_ | refine below_drewN ?_ _ | refine below_set ?_ (by first | omega | (dsimp only; omega)) _)), (by first | omega | (simp only [World.heap_drewN, World.size_alloc, World.size_setCell, World.size_drew]; omega)), (by first | omega | (simp only [World.heap_drewN, World.size_alloc, World.size_setCell, World.size_drew]; omega)), (by first | omega | (simp only [World.heap_drewN, World.size_alloc, World.size_setCell, World.size_drew]; omega)), (by first | omega | (simp only [World.heap_drewN, World.size_alloc, World.size_setCell, World.size_drew]; omega)), (by go_simp), (by go_simp)⟩
                                  · subst e1
                                    replace e2 := Lib.hid e2
                                    clear h16
                                    go_wp2_with fail
                                    refine (e2.out _ (by repeat (first | exact hB22 | exact Below.refl _ _ | refine balloc ?_ _ | refine Below.drew ?_ | refine below_drewN ?_ _ | refine below_set ?_ (by first | omega | (dsimp only; omega)) _))).mono ?_; rintro e w23 ⟨rfl, hb⟩
                                    obtain ⟨hc23, hf23⟩ := bcell hb
                                    have z23 := hb.size
                                    try simp only [World.size_alloc, World.size_setCell, World.size_drew] at z23
                                    have s23_0 : w.heap.size < w23.heap.size := by omega
                                    have s23_1 : w.heap.size + 1 < w23.heap.size := by omega
                                    have s23_2 : w13.heap.size < w23.heap.size := by omega
                                    have s23_3 : w15.heap.size < w23.heap.size := by omega
                                    have hB23 : Below w.heap.size w w23 := below_seq (by repeat (first | exact hB22 | exact Below.refl _ _ | refine balloc ?_ _ | refine Below.drew ?_ | refine below_drewN ?_ _ | refine below_set ?_ (by first | omega | (dsimp only; omega)) _)) hb
                                    clear hb
                                    have m23_0_0 : w23.cell? ⟨w.heap.size + 1, 0, none⟩ = some (.int .i64 C) := by go_simp
                                    have m23_0_1 : w23.cell? ⟨w.heap.size + 1, 1, none⟩ = some (.slice a7 n7 c7) := by go_simp
                                    clear m22_0_0 m22_0_1
                                    clear hc23
                                    go_wp2_with fail
                                    go_meet
                                    exact ⟨rfl, (by repeat (first | exact hB23 | exact Below.refl _ _ | refine balloc ?_ _ | refine Below.drew ?_ | refine below_drewN ?_ _ | refine below_set ?_ (by first | omega | (dsimp only; omega)) _)), (by first | omega | (simp only [World.heap_drewN, World.size_alloc, World.size_setCell, World.size_drew]; omega)), (by first | omega | (simp only [World.heap_drewN, World.size_alloc, World.size_setCell, World.size_drew]; omega)), (by first | omega | (simp only [World.heap_drewN, World.size_alloc, World.size_setCell, World.size_drew]; omega)), (by first | omega | (simp only [World.heap_drewN, World.size_alloc, World.size_setCell, World.size_drew]; omega)), (by go_simp), (by go_simp)⟩
                                case rest =>
                                  obtain ⟨w23, hwq⟩ : ∃ x, x = wc := ⟨_, rfl⟩
                                  subst hwq
                                  obtain ⟨rfl, hB23, s23_0, s23_1, s23_2, s23_3, m23_0_0, m23_0_1⟩ := hcut
                                  clear m22_0_0 m22_0_1
                                  clear h16
                                  go_wp2_with fail
                                  refine (kVer.out _ (by repeat (first | exact hB23 | exact Below.refl _ _ | refine balloc ?_ _ | refine Below.drew ?_ | refine below_drewN ?_ _ | refine below_set ?_ (by first | omega | (dsimp only; omega)) _))).mono ?_; rintro e w24 ⟨rfl, hb⟩
                                  obtain ⟨hc24, hf24⟩ := bcell hb
                                  have z24 := hb.size
                                  try simp only [World.size_alloc, World.size_setCell, World.size_drew] at z24
                                  have s24_0 : w.heap.size < w24.heap.size := by omega
                                  have s24_1 : w.heap.size + 1 < w24.heap.size := by omega
                                  have s24_2 : w13.heap.size < w24.heap.size := by omega
                                  have s24_3 : w15.heap.size < w24.heap.size := by omega
                                  have hB24 : Below w.heap.size w w24 := below_seq (by repeat (first | exact hB23 | exact Below.refl _ _ | refine balloc ?_ _ | refine Below.drew ?_ | refine below_drewN ?_ _ | refine below_set ?_ (by first | omega | (dsimp only; omega)) _)) hb
                                  clear hb
                                  have m24_0_0 : w24.cell? ⟨w.heap.size + 1, 0, none⟩ = some (.int .i64 C) := by go_simp
                                  have m24_0_1 : w24.cell? ⟨w.heap.size + 1, 1, none⟩ = some (.slice a7 n7 c7) := by go_simp
                                  clear m23_0_0 m23_0_1
                                  clear hc24
                                  go_wp2_with fail
                                  refine (error_same (errV F3) F3 _ (hE.below (by repeat (first | exact hB24 | exact Below.refl _ _ | refine balloc ?_ _ | refine Below.drew ?_ | refine below_drewN ?_ _ | refine below_set ?_ (by first | omega | (dsimp only; omega)) _))) (Lib.hid rfl)).mono ?_; rintro e w25 ⟨rfl, hb⟩
                                  obtain ⟨hc25, hf25⟩ := bcell hb
                                  have z25 := hb.size
                                  try simp only [World.size_alloc, World.size_setCell, World.size_drew] at z25
                                  have s25_0 : w.heap.size < w25.heap.size := by omega
                                  have s25_1 : w.heap.size + 1 < w25.heap.size := by omega
                                  have s25_2 : w13.heap.size < w25.heap.size := by omega
                                  have s25_3 : w15.heap.size < w25.heap.size := by omega
                                  have hB25 : Below w.heap.size w w25 := below_seq (by repeat (first | exact hB24 | exact Below.refl _ _ | refine balloc ?_ _ | refine Below.drew ?_ | refine below_drewN ?_ _ | refine below_set ?_ (by first | omega | (dsimp only; omega)) _)) hb
                                  clear hb
                                  have m25_0_0 : w25.cell? ⟨w.heap.size + 1, 0, none⟩ = some (.int .i64 C) := by go_simp
                                  have m25_0_1 : w25.cell? ⟨w.heap.size + 1, 1, none⟩ = some (.slice a7 n7 c7) := by go_simp
                                  clear m24_0_0 m24_0_1
                                  clear hc25
                                  go_wp2
                                  go_ret
                                  exact ⟨rfl, (by repeat (first | exact hB25 | exact Below.refl _ _ | refine balloc ?_ _ | refine Below.drew ?_ | refine below_drewN ?_ _ | refine below_set ?_ (by first | omega | (dsimp only; omega)) _))⟩
end Go.Proofs.YtfnifdmnbccblaaDoor
namespace Go.Proofs.YtfnifdmnbccblaaDoor
open Go.RowKit
set_option maxRecDepth 100000
set_option linter.unusedVariables false
set_option linter.unusedSimpArgs false
theorem all_sqr : ∀ l : List Sp, (∀ z ∈ l, Ok z) → ∃ us : List Int, l = us.map sq
  | [], _ => ⟨[], rfl⟩
  | z :: l, h => by
    obtain ⟨us, e⟩ := all_sqr l (fun y hy => h y (List.mem_cons_of_mem _ hy))
    obtain ⟨k, -, -, e2⟩ := sq_all (h z List.mem_cons_self)
    exact ⟨k :: us, by rw [e, e2]; rfl⟩
/-- The first place where it does not hold. -/
theorem first_not (p : Nat → Bool) : ∀ n : Nat, ∃ q, q ≤ n ∧ (∀ i, i < q → p i = true) ∧ (q < n → p q = false)
  | 0 => ⟨0, Nat.le_refl _, fun i h => absurd h (Nat.not_lt_zero _), fun h => absurd h (Nat.lt_irrefl _)⟩
  | n + 1 => by
    obtain ⟨q, h1, h2, h3⟩ := first_not p n
    by_cases hq : q < n
    · exact ⟨q, by omega, h2, fun _ => h3 hq⟩
    · obtain rfl : q = n := by omega
      cases hp : p q
      · exact ⟨q, by omega, h2, fun _ => hp⟩
      · refine ⟨q + 1, by omega, fun i hi => ?_, fun h => absurd h (Nat.lt_irrefl _)⟩
        by_cases e : i < q
        · exact h2 i e
        · obtain rfl : i = q := by omega
          exact hp
/-- Keys that are looked at: the first fault, or none. -/
theorem rt_keys (w : World) (hF : FarAt w) (v : Value) (hv : SpotsV w v) : (∃ (a : Option Addr) (n cap : Nat), v = .slice a n cap ∧ n ≤ 9223372036854775807 ∧ ∃ m : Int, m ≠ 0 ∧ RvAt w 44 #[v] (.int .i64 m) ∧ RvAt w 103 #[v] (.tuple #[.string ⟨#[]⟩, .iface 118 (.int .i64 m)])) ∨
    ∃ (a : Option Addr) (cap : Nat) (l : List Sp), v = .slice a l.length cap ∧ l.length ≤ 12 ∧ (0 < l.length → ∃ b off, a = some ⟨b, off, none⟩ ∧ SpotsAt w b off l) ∧ (∀ z ∈ l, Ok z) ∧ RvAt w 44 #[v] (.int .i64 0) := by
  rcases hv with ⟨a, cap, rfl⟩ | ⟨b, off, cap, l, rfl, h1, hm, hs⟩
  · exact .inr ⟨a, cap, [], rfl, by simp, fun h => absurd h (Nat.lt_irrefl 0), fun z h => absurd h (by simp), fun w1 _ => refSpots_nil a cap w1⟩
  · by_cases h12 : l.length ≤ 12
    · rcases first_bad l with hok | ⟨k, hk, hok, hbad⟩
      · exact .inr ⟨_, cap, l, rfl, h12, fun _ => ⟨b, off, rfl, hs⟩, fun z hz => by obtain ⟨i, hi, rfl⟩ := List.getElem_of_mem hz; exact hok i hi,
          fun w1 hb => refSpots_core l b off cap w1 h12 (hs.below hb) l.length (Nat.le_refl _) 0 (fun i hi _ => (ok_iff _).mpr (hok i hi)) (fun h => absurd h (Nat.lt_irrefl _)) (fun _ => rfl)⟩
      · exact .inl ⟨_, _, cap, rfl, by omega, sCheck l[k], hbad, fun w1 hb => refSpots_core l b off cap w1 h12 (hs.below hb) k (Nat.le_of_lt hk) _ (fun i hi hik => (ok_iff _).mpr (hok i hi hik)) (fun h => ⟨by simpa using hbad, rfl⟩) (fun e => absurd hk (by omega)),
          fun w1 hb => list_bad l b off cap w1 (hF.below hb) h12 (hs.below hb) k hk hok hbad⟩
    · have hm' : l.length ≤ 9223372036854775807 := by unfold maxLen at hm; omega
      exact .inl ⟨_, _, cap, rfl, hm', 4, by decide, fun w1 _ => refSpots_full l.length _ cap w1 (by omega) hm', fun w1 _ => list_full l.length _ cap w1 (by omega) hm'⟩
theorem errV_ne {E : Int} (h : E ≠ 0) : errV E = .iface 118 (.int .i64 E) := by rw [errV, if_neg h]
/-- What is asked. -/
theorem rt_ask (v : Value) (r : Sp) (t : ByteArray) (w : World) (hF : FarAt w) (E0 F : Int) (hp : (E0 ≠ 0 ∧ F = E0 ∧ RvAt w 103 #[v] (.tuple #[.string ⟨#[]⟩, .iface 118 (.int .i64 E0)])) ∨
      (E0 = 0 ∧ ∃ L : ByteArray, L.size ≤ 100 ∧ RvAt w 103 #[v] (.tuple #[.string L, .nilIface]) ∧ RvAt w 102 #[v] (.string L) ∧ ((F ≠ 0 ∧ RvAt w 105 #[v, .string t] (.tuple #[.string ⟨#[]⟩, .iface 118 (.int .i64 F)])) ∨ (F = 0 ∧ t.size ≤ 60 ∧ RvAt w 105 #[v, .string t] (.tuple #[.string L, .nilIface]))))) :
    ∃ E1 E2 N : Int, ((E0 = 0 ∧ sCheck r = E1) ∨ ((E0 == 0) = false ∧ E1 = E0)) ∧ ((E1 = 0 ∧ E2 = F) ∨ ((E1 == 0) = false ∧ E2 = E1)) ∧ ((E2 = 0 ∧ RvAt w 46 #[v, spV r, .string t] (.int .i64 N)) ∨ ((E2 == 0) = false ∧ N = 0)) ∧
      RvAt w 47 #[v, spV r, .string t] (.tuple #[.int .i64 N, errV E2]) := by
  rcases hp with ⟨h0, rfl, hL⟩ | ⟨rfl, L, hLz, hL, hRL, hR⟩
  · have hb : (F == 0) = false := by simpa using h0
    exact ⟨F, F, 0, .inr ⟨hb, rfl⟩, .inr ⟨hb, rfl⟩, .inr ⟨hb, rfl⟩, fun w1 hb1 => by rw [errV_ne h0]; exact rask_nl v r t F w1 (Lib.hid fun w2 hb2 => hL w2 (below_seq hb1 hb2))⟩
  · by_cases hr : sCheck r = 0
    · have oR := (ok_iff _).mp hr
      rcases hR with ⟨h0, hR⟩ | ⟨rfl, ht, hR⟩
      · have hb : (F == 0) = false := by simpa using h0
        exact ⟨0, F, 0, .inl ⟨rfl, hr⟩, .inl ⟨rfl, rfl⟩, .inr ⟨hb, rfl⟩, fun w1 hb1 => by rw [errV_ne h0]; exact rask_nr v r L t F w1 (hF.below hb1) oR (Lib.hid fun w2 hb2 => hL w2 (below_seq hb1 hb2)) (Lib.hid fun w2 hb2 => hR w2 (below_seq hb1 hb2))⟩
      · exact ⟨0, 0, rAsk L t r, .inl ⟨rfl, hr⟩, .inl ⟨rfl, rfl⟩, .inl ⟨rfl, fun w1 hb1 => rRingAsk_core v r L t _ w1 oR hLz ht (Lib.hid fun w2 hb2 => hRL w2 (below_seq hb1 hb2)) (Lib.hid rfl)⟩,
          fun w1 hb1 => rask_y v r L t _ w1 (hF.below hb1) oR hLz ht (Lib.hid fun w2 hb2 => hL w2 (below_seq hb1 hb2)) (Lib.hid fun w2 hb2 => hR w2 (below_seq hb1 hb2)) (Lib.hid rfl)⟩
    · have hb : (sCheck r == 0) = false := by simpa using hr
      exact ⟨_, _, 0, .inl ⟨rfl, rfl⟩, .inr ⟨hb, rfl⟩, .inr ⟨hb, rfl⟩, fun w1 hb1 => by rw [errV_ne hr]; exact rask_nb v r L t _ w1 (hF.below hb1) (Lib.hid rfl) hr (Lib.hid fun w2 hb2 => hL w2 (below_seq hb1 hb2))⟩
theorem set_zero {l : List Int} {p j : Nat} (h : j ≠ p) : (l.set p 0).getD j 0 = l.getD j 0 := by
  rw [List.getD_eq_getElem?_getD, List.getD_eq_getElem?_getD, List.getElem?_set_ne (by omega)]
theorem set_all {l : List Int} {p : Nat} (h : ∀ i (hi : i < l.length), okR l[i] = true ∨ i = p) : (l.set p 0).all okR = true := by
  rw [List.all_eq_true]
  intro x hx
  obtain ⟨i, hi, rfl⟩ := List.getElem_of_mem hx
  rw [List.length_set] at hi
  rw [List.getElem_set]
  split
  · rfl
  · rcases h i hi with e | e
    · exact e
    · rename_i hne; exact absurd e.symm hne
theorem set_some {l : List Int} {p q : Nat} (hq : q < l.length) (hne : q ≠ p) (h : okR l[q] = false) : (l.set p 0).all okR = false := by
  cases e : (l.set p 0).all okR
  · rfl
  · have := all_okR e q (by rw [List.length_set]; exact hq)
    rw [List.getElem_set, if_neg (fun e => hne e.symm), h] at this; cases this
theorem rD_set {L t : ByteArray} {us ss : List Int} {p n : Nat} {k : Int} (hp : p < n) : ∀ i, i + 1 ≤ n → rD L t us (fun j => (ss.set p 0).getD j 0) p n k i = rD L t us (fun j => ss.getD j 0) p n k i
  | 0, _ => rfl
  | i + 1, h => by
    have ih := rD_set (L := L) (t := t) (us := us) (ss := ss) (k := k) hp i (by omega)
    have hne : (p + (i + 1)) % n ≠ p := turn_at hp (by omega)
    show rNext L t _ (rD L t us (fun j => (ss.set p 0).getD j 0) p n k i) ((ss.set p 0).getD ((p + (i + 1)) % n) 0) = rNext L t _ (rD L t us (fun j => ss.getD j 0) p n k i) (ss.getD ((p + (i + 1)) % n) 0)
    rw [ih, set_zero hne]
theorem IntsF.intsAt {w : World} {g n : Nat} {f : Nat → Int} (h : IntsF w g n f) : IntsAt w g 0 ((List.range n).map f) :=
  ⟨h.lt, fun i hi => by
    simp only [List.length_map, List.length_range] at hi
    rw [Nat.zero_add, h.c i hi]
    simp⟩
theorem rt_no {E : Int} (hE : E ≠ 0) {w1 : World} {e : Ending} {w' : World} (h : RNo w1 E e w') : ∃ v', e = .returned (.tuple #[.agg #[.int .i64 0, v'], errV E]) ∧ IntSl w' v' [] ∧ Below w1.heap.size w1 w' :=
  ⟨_, by rw [h.1, errV_ne hE], IntSl.nil_ _, h.2⟩
/-- What is known of keys and a text, of which the fault is F. -/
def RtK (w : World) (a0 : Option Addr) (n0 c0 : Nat) (t : ByteArray) (F : Int) : Prop :=
  (F ≠ 0 ∧ RvAt w 105 #[.slice a0 n0 c0, .string t] (.tuple #[.string ⟨#[]⟩, .iface 118 (.int .i64 F)])) ∨
  (F = 0 ∧ ∃ l : List Sp, n0 = l.length ∧ 1 ≤ l.length ∧ l.length ≤ 12 ∧ (∃ b off, a0 = some ⟨b, off, none⟩ ∧ SpotsAt w b off l) ∧ (∀ z ∈ l, Ok z) ∧ t.size ≤ 60 ∧ RvAt w 105 #[.slice a0 n0 c0, .string t] (.tuple #[.string (lsB l.length l), .nilIface]))
theorem rt_sign (a0 a6 : Option Addr) (n0 n6 c0 c6 : Nat) (ss : List Int) (t : ByteArray) (at' x k F : Int) (w : World) (hF : FarAt w) (hn6 : n6 = ss.length) (j0 : n0 ≤ 9223372036854775807) (j6 : n6 ≤ 9223372036854775807) (hI : 0 < ss.length → ∃ b off, a6 = some ⟨b, off, none⟩ ∧ IntsAt w b off ss)
    (xa : -9223372036854775808 ≤ x) (xb : x ≤ 9223372036854775807) (hp : RtK w a0 n0 c0 t F) :
    ∃ (B81 B105 : Bool) (E3 E4 E5 E6 CW : Int) (WL : List Int), WL.length ≤ 1000000 ∧ ((F = 0 ∧ ((n6 : Int) != (n0 : Int)) = B81) ∨ ((F == 0) = false ∧ B81 = false)) ∧ ((B81 = true ∧ E3 = 3) ∨ (B81 = false ∧ E3 = F)) ∧
      ((E3 = 0 ∧ at' < 0 ∧ B105 = true) ∨ (E3 = 0 ∧ 0 ≤ at' ∧ (n0 : Int) ≤ at' ∧ B105 = true) ∨ (E3 = 0 ∧ 0 ≤ at' ∧ at' < (n0 : Int) ∧ secB x = false ∧ B105 = true) ∨ (E3 = 0 ∧ 0 ≤ at' ∧ at' < (n0 : Int) ∧ secB x = true ∧ secB k = false ∧ B105 = true) ∨ (E3 = 0 ∧ 0 ≤ at' ∧ at' < (n0 : Int) ∧ secB x = true ∧ secB k = true ∧ B105 = false) ∨ ((E3 == 0) = false ∧ B105 = false)) ∧
      ((B105 = true ∧ E4 = 1) ∨ (B105 = false ∧ E4 = E3)) ∧
      (((E4 == 0) = false ∧ E5 = E4) ∨ (E4 = 0 ∧ ∃ (ss : List Int) (q0 : Nat), n6 = ss.length ∧ (0 < ss.length → ∃ b off, a6 = some ⟨b, off, none⟩ ∧ IntsAt w b off ss) ∧ q0 ≤ ss.length ∧ (∀ i (h : i < ss.length), i < q0 → resB ss[i] = true ∨ (i : Int) = at') ∧ (∀ h : q0 < ss.length, resB ss[q0] = false ∧ (q0 : Int) ≠ at' ∧ E5 = 1) ∧ (q0 = ss.length → E5 = 0))) ∧
      (((E5 == 0) = false ∧ E6 = E5) ∨ (E5 = 0 ∧ ∃ (K A : Sp) (p b off : Nat), -9223372036854775808 ≤ x ∧ x ≤ 9223372036854775807 ∧ sq (4 * x) = K ∧ at' = (p : Int) ∧ p < n0 ∧ a0 = some ⟨b, off, none⟩ ∧ (∀ w1 : World, Below w.heap.size w w1 → w1.cell? ⟨b, off + p * 3, none⟩ = some (.int .i64 A.x) ∧ w1.cell? ⟨b, off + p * 3 + 1, none⟩ = some (.int .i64 A.y) ∧ w1.cell? ⟨b, off + p * 3 + 2, none⟩ = some (.bool A.far) ∧ b < w1.heap.size) ∧ ((Sp.beq K A = true ∧ E6 = 0) ∨ (Sp.beq K A = false ∧ E6 = 8)))) ∧
      (((E6 == 0) = false ∧ CW = 0 ∧ WL = []) ∨ (E6 = 0 ∧ ∀ w1 : World, Below w.heap.size w w1 → Calls Tryd.prog 48 #[.slice a0 n0 c0, .int .i64 at', .int .i64 x, .int .i64 k, .slice a6 n6 c6, .string t] w1 fun e w' => ∃ v', e = .returned (.agg #[.int .i64 CW, v']) ∧ IntF w1.heap.size w' v' WL ∧ Below w1.heap.size w1 w')) ∧
      (∀ w1 : World, Below w.heap.size w w1 → Calls Tryd.prog 49 #[.slice a0 n0 c0, .int .i64 at', .int .i64 x, .int .i64 k, .slice a6 n6 c6, .string t] w1 fun e w' => ∃ v', e = .returned (.tuple #[.agg #[.int .i64 CW, v'], errV E6]) ∧ IntSl w' v' WL ∧ Below w1.heap.size w1 w') := by
  rcases hp with ⟨h0, hR⟩ | ⟨rfl, l, rfl, h1, h12, ⟨bk, ok, rfl, hS⟩, hok, ht, hR⟩
  · have hb : (F == 0) = false := by simpa using h0
    exact ⟨false, false, F, F, F, F, 0, [], by simp, .inr ⟨hb, rfl⟩, .inr ⟨rfl, rfl⟩, .inr (.inr (.inr (.inr (.inr ⟨hb, rfl⟩)))), .inr ⟨rfl, rfl⟩, .inl ⟨hb, rfl⟩, .inl ⟨hb, rfl⟩, .inl ⟨hb, rfl, rfl⟩,
      fun w1 hb1 => (rsign_nr F n0 a0 c0 (.slice a6 n6 c6) at' x k t w1 (Lib.hid fun w2 hb2 => hR w2 (below_seq hb1 hb2))).mono fun e w' h => rt_no h0 h⟩
  subst hn6
  have hR' : ∀ w1 : World, Below w.heap.size w w1 → RvAt w1 105 #[.slice (some ⟨bk, ok, none⟩) l.length c0, .string t] (.tuple #[.string (lsB l.length l), .nilIface]) := fun w1 hb1 w2 hb2 => hR w2 (below_seq hb1 hb2)
  by_cases hnn : ss.length = l.length
  case neg =>
    exact ⟨true, false, 3, 3, 3, 3, 0, [], by simp, .inl ⟨rfl, by rw [bne_iff_ne]; omega⟩, .inl ⟨rfl, rfl⟩, .inr (.inr (.inr (.inr (.inr ⟨rfl, rfl⟩)))), .inr ⟨rfl, rfl⟩, .inl ⟨rfl, rfl⟩, .inl ⟨rfl, rfl⟩, .inl ⟨rfl, rfl, rfl⟩,
      fun w1 hb1 => (rsign_nsh l.length ss.length _ a6 c0 c6 _ at' x k t w1 hnn j6 j0 (Lib.hid (hR' w1 hb1))).mono fun e w' h => rt_no (by decide) h⟩
  have hB81 : ((ss.length : Int) != (l.length : Int)) = false := by rw [hnn]; simp
  by_cases hat : at' < 0 ∨ (l.length : Int) ≤ at'
  · refine ⟨false, true, 0, 1, 1, 1, 0, [], by simp, .inl ⟨rfl, hB81⟩, .inr ⟨rfl, rfl⟩, ?_, .inl ⟨rfl, rfl⟩, .inl ⟨rfl, rfl⟩, .inl ⟨rfl, rfl⟩, .inl ⟨rfl, rfl, rfl⟩, fun w1 hb1 => ?_⟩
    · by_cases h : at' < 0
      · exact .inl ⟨rfl, h, rfl⟩
      · exact .inr (.inl ⟨rfl, by omega, by omega, rfl⟩)
    · rw [hnn]
      exact (rsign_nat l.length _ a6 c0 c6 _ at' x k t w1 hat h12 (Lib.hid (hR' w1 hb1))).mono fun e w' h => rt_no (by decide) h
  obtain ⟨p, rfl⟩ : ∃ p : Nat, at' = (p : Int) := ⟨at'.toNat, by omega⟩
  have hpl : p < l.length := by omega
  by_cases hx : 1 ≤ x ∧ x < 1013
  case neg =>
    refine ⟨false, true, 0, 1, 1, 1, 0, [], by simp, .inl ⟨rfl, hB81⟩, .inr ⟨rfl, rfl⟩, .inr (.inr (.inl ⟨rfl, by omega, by omega, decide_eq_false hx, rfl⟩)), .inl ⟨rfl, rfl⟩, .inl ⟨rfl, rfl⟩, .inl ⟨rfl, rfl⟩, .inl ⟨rfl, rfl, rfl⟩, fun w1 hb1 => ?_⟩
    rw [hnn]
    exact (rsign_nx l.length _ a6 c0 c6 _ p x k t w1 hpl h12 hx (Lib.hid (hR' w1 hb1))).mono fun e w' h => rt_no (by decide) h
  have bx : secB x = true := decide_eq_true hx
  by_cases hk : 1 ≤ k ∧ k < 1013
  case neg =>
    refine ⟨false, true, 0, 1, 1, 1, 0, [], by simp, .inl ⟨rfl, hB81⟩, .inr ⟨rfl, rfl⟩, .inr (.inr (.inr (.inl ⟨rfl, by omega, by omega, bx, decide_eq_false hk, rfl⟩))), .inl ⟨rfl, rfl⟩, .inl ⟨rfl, rfl⟩, .inl ⟨rfl, rfl⟩, .inl ⟨rfl, rfl, rfl⟩, fun w1 hb1 => ?_⟩
    rw [hnn]
    exact (rsign_nk l.length _ a6 c0 c6 _ p x k t w1 hpl h12 hx.1 hx.2 hk (Lib.hid (hR' w1 hb1))).mono fun e w' h => rt_no (by decide) h
  have bk' : secB k = true := decide_eq_true hk
  obtain ⟨us, hus⟩ := all_sqr l hok
  obtain ⟨q0, hq1, hq2, hq3⟩ := first_not (fun i => resB (ss.getD i 0) || i == p) l.length
  have hq2' : ∀ i (h : i < ss.length), i < q0 → resB ss[i] = true ∨ (i : Int) = (p : Int) := fun i hi hiq => by
    have := hq2 i hiq
    rw [getD_at hi, Bool.or_eq_true, beq_iff_eq] at this
    rcases this with h | h
    · exact .inl h
    · exact .inr (by omega)
  have hsv : ∀ w1 : World, Below w.heap.size w w1 → SpSl w1 (.slice (some ⟨bk, ok, none⟩) l.length c0) l := fun w1 hb1 => ⟨_, c0, rfl, fun _ => ⟨bk, ok, rfl, hS.below hb1⟩⟩
  have hiv : ∀ w1 : World, Below w.heap.size w w1 → IntSl w1 (.slice a6 ss.length c6) ss := fun w1 hb1 => ⟨a6, c6, rfl, fun h => by obtain ⟨b, off, e, hi⟩ := hI h; exact ⟨b, off, e, hi.below hb1⟩⟩
  have h6' : ∀ B : Bool, B = false → ((0 : Int) = 0 ∧ (p : Int) < 0 ∧ B = true) ∨ ((0 : Int) = 0 ∧ 0 ≤ (p : Int) ∧ (l.length : Int) ≤ (p : Int) ∧ B = true) ∨ ((0 : Int) = 0 ∧ 0 ≤ (p : Int) ∧ (p : Int) < (l.length : Int) ∧ secB x = false ∧ B = true) ∨ ((0 : Int) = 0 ∧ 0 ≤ (p : Int) ∧ (p : Int) < (l.length : Int) ∧ secB x = true ∧ secB k = false ∧ B = true) ∨ ((0 : Int) = 0 ∧ 0 ≤ (p : Int) ∧ (p : Int) < (l.length : Int) ∧ secB x = true ∧ secB k = true ∧ B = false) ∨ (((0 : Int) == 0) = false ∧ B = false) :=
    fun B hB => .inr (.inr (.inr (.inr (.inl ⟨rfl, by omega, by omega, bx, bk', hB⟩))))
  by_cases hq : q0 < l.length
  · have hqs : q0 < ss.length := by omega
    have h3 := hq3 hq
    rw [getD_at hqs, Bool.or_eq_false_iff, beq_eq_false_iff_ne] at h3
    refine ⟨false, false, 0, 0, 1, 1, 0, [], by simp, .inl ⟨rfl, hB81⟩, .inr ⟨rfl, rfl⟩, h6' _ rfl, .inr ⟨rfl, rfl⟩, .inr ⟨rfl, ss, q0, rfl, hI, by omega, hq2', fun _ => ⟨h3.1, by have := h3.2; omega, rfl⟩, fun e => absurd hqs (by omega)⟩, .inl ⟨rfl, rfl⟩, .inl ⟨rfl, rfl, rfl⟩, fun w1 hb1 => ?_⟩
    exact (rsign_ns2 us l ss _ _ t p l.length x k _ w1 (hF.below hb1) hpl h12 rfl (Lib.hid hus) hnn (set_some hqs h3.2 h3.1) ht hx.1 hx.2 hk.1 hk.2 (hsv w1 hb1) (hiv w1 hb1) (Lib.hid rfl) _ (Lib.hid rfl)).mono fun e w' h => rt_no (by decide) h
  have hqe : q0 = ss.length := by omega
  have hall : (ss.set p 0).all okR = true := set_all fun i hi => by
    rcases hq2' i hi (by omega) with h | h
    · exact .inl h
    · exact .inr (by omega)
  have h8 : ((0 : Int) == 0) = false ∧ (0 : Int) = 0 ∨ (0 : Int) = 0 ∧ ∃ (ss' : List Int) (q0 : Nat), ss.length = ss'.length ∧ (0 < ss'.length → ∃ b off, a6 = some ⟨b, off, none⟩ ∧ IntsAt w b off ss') ∧ q0 ≤ ss'.length ∧ (∀ i (h : i < ss'.length), i < q0 → resB ss'[i] = true ∨ (i : Int) = (p : Int)) ∧ (∀ h : q0 < ss'.length, resB ss'[q0] = false ∧ (q0 : Int) ≠ (p : Int) ∧ (0 : Int) = 1) ∧ (q0 = ss'.length → (0 : Int) = 0) :=
    .inr ⟨rfl, ss, q0, rfl, hI, by omega, hq2', fun h => absurd h (by omega), fun _ => rfl⟩
  have hcl : ∀ w1 : World, Below w.heap.size w w1 → w1.cell? ⟨bk, ok + p * 3, none⟩ = some (.int .i64 l[p].x) ∧ w1.cell? ⟨bk, ok + p * 3 + 1, none⟩ = some (.int .i64 l[p].y) ∧ w1.cell? ⟨bk, ok + p * 3 + 2, none⟩ = some (.bool l[p].far) ∧ bk < w1.heap.size := fun w1 hb1 => by
    have h := hS.below hb1
    exact ⟨h.cx p hpl, h.cy p hpl, h.cf p hpl, h.lt⟩
  cases hbq : Sp.beq (sq (4 * x)) l[p]
  · refine ⟨false, false, 0, 0, 0, 8, 0, [], by simp, .inl ⟨rfl, hB81⟩, .inr ⟨rfl, rfl⟩, h6' _ rfl, .inr ⟨rfl, rfl⟩, h8, .inr ⟨rfl, _, l[p], p, bk, ok, xa, xb, rfl, rfl, hpl, rfl, hcl, .inr ⟨hbq, rfl⟩⟩, .inl ⟨rfl, rfl, rfl⟩, fun w1 hb1 => ?_⟩
    exact (rsign_w us l ss _ _ t p l.length x k _ _ _ w1 (hF.below hb1) hpl h12 rfl (Lib.hid hus) hnn hall ht hx.1 hx.2 hk.1 hk.2 (Lib.hid rfl) l[p] (Lib.hid fun _ => rfl) hbq (Lib.hid rfl) (hsv w1 hb1) (hiv w1 hb1) (Lib.hid rfl) _ (Lib.hid rfl)).mono fun e w' h => rt_no (by decide) h
  · have hKA : l[p] = sq (4 * x) := (Sp.beq_iff.mp hbq).symm
    have hfe : ∀ S : Int, (List.range l.length).map (fun j => if j = p then S else (ss.set p 0).getD j 0) = (List.range l.length).map (fun j => if j = p then S else ss.getD j 0) := fun S => by
      refine List.map_congr_left fun j _ => ?_
      by_cases e : j = p
      · rw [if_pos e, if_pos e]
      · rw [if_neg e, if_neg e, set_zero e]
    refine ⟨false, false, 0, 0, 0, 0, rD (lsB l.length l) t us (fun j => ss.getD j 0) p l.length k (l.length - 1 - p), (List.range l.length).map (fun j => if j = p then (k - rD (lsB l.length l) t us (fun j => ss.getD j 0) p l.length k (l.length - 1) * x) % 1013 else ss.getD j 0), by simp; omega, .inl ⟨rfl, hB81⟩, .inr ⟨rfl, rfl⟩, h6' _ rfl, .inr ⟨rfl, rfl⟩, h8, .inr ⟨rfl, _, l[p], p, bk, ok, xa, xb, rfl, rfl, hpl, rfl, hcl, .inl ⟨hbq, rfl⟩⟩, .inr ⟨rfl, fun w1 hb1 => ?_⟩, fun w1 hb1 => ?_⟩
    · refine (rRingSign_c us l ss _ _ t p l.length x k _ _ w1 hpl h12 (Lib.hid rfl) (Lib.hid hus) (Lib.hid hnn) (fun j h1 h2 => ?_) ht hx.1 hx.2 hk.1 hk.2 (Lib.hid rfl) (hsv w1 hb1) (hiv w1 hb1) (Lib.hid rfl) _ (Lib.hid fun j => rfl)).mono ?_
      · rcases hq2' j (by omega) (by omega) with h | h
        · rw [getD_at (by omega)]; exact of_decide_eq_true h
        · exact absurd h (by omega)
      · rintro e w' ⟨g, cap, he, hg, hfI, hb⟩
        refine ⟨_, he, ⟨_, cap, by rw [List.length_map, List.length_range], fun _ => ⟨g, 0, rfl, hg, hfI.intsAt⟩⟩, hb⟩
    · refine (rsign_y us l ss _ _ t p l.length x k _ _ _ w1 (hF.below hb1) hpl h12 rfl (Lib.hid hus) hnn hall ht hx.1 hx.2 hk.1 hk.2 (Lib.hid rfl) (Lib.hid fun _ => hKA) (Lib.hid rfl) (hsv w1 hb1) (hiv w1 hb1) (Lib.hid rfl) _ (Lib.hid rfl)).mono ?_
      rintro e w' ⟨f, g, cap, hf, he, hfI, hb⟩
      have hf0 : f 0 = rD (lsB l.length l) t us (fun j => ss.getD j 0) p l.length k (l.length - 1 - p) := by
        have h := hf (l.length - 1 - p) (by omega)
        rw [(turn_zero hpl (by omega)).mpr rfl, rD_set hpl _ (by omega)] at h
        exact h
      have hfp : f p = rD (lsB l.length l) t us (fun j => ss.getD j 0) p l.length k (l.length - 1) := by
        have h := hf (l.length - 1) (by omega)
        rw [show p + (l.length - 1) + 1 = p + l.length by omega, Nat.add_mod_right, Nat.mod_eq_of_lt hpl, rD_set hpl _ (by omega)] at h
        exact h
      rw [hf0] at he
      rw [hfp] at hfI
      refine ⟨_, he, ⟨_, cap, by rw [List.length_map, List.length_range], fun _ => ⟨g, 0, rfl, ?_⟩⟩, hb⟩
      rw [← hfe]
      exact hfI.intsAt
theorem rt_ver (a0 a7 : Option Addr) (n0 n7 c0 c7 : Nat) (zs : List Int) (t : ByteArray) (C F : Int) (w : World) (hF : FarAt w) (hn7 : n7 = zs.length) (j0 : n0 ≤ 9223372036854775807) (j7 : n7 ≤ 9223372036854775807) (hI : 0 < zs.length → ∃ b off, a7 = some ⟨b, off, none⟩ ∧ IntsAt w b off zs) (hp : RtK w a0 n0 c0 t F) :
    ∃ (B183 B192 : Bool) (F1 F2 F3 : Int) (RT : Bool), ((F = 0 ∧ ((n7 : Int) != (n0 : Int)) = B183) ∨ ((F == 0) = false ∧ B183 = false)) ∧ ((B183 = true ∧ F1 = 3) ∨ (B183 = false ∧ F1 = F)) ∧
      ((F1 = 0 ∧ resB C = true ∧ B192 = false) ∨ (F1 = 0 ∧ resB C = false ∧ B192 = true) ∨ ((F1 == 0) = false ∧ B192 = false)) ∧ ((B192 = true ∧ F2 = 1) ∨ (B192 = false ∧ F2 = F1)) ∧
      (((F2 == 0) = false ∧ F3 = F2) ∨ (F2 = 0 ∧ ∃ (ss : List Int) (q0 : Nat), n7 = ss.length ∧ (0 < ss.length → ∃ b off, a7 = some ⟨b, off, none⟩ ∧ IntsAt w b off ss) ∧ q0 ≤ ss.length ∧ (∀ i (h : i < ss.length), i < q0 → resB ss[i] = true) ∧ (∀ h : q0 < ss.length, resB ss[q0] = false ∧ F3 = 1) ∧ (q0 = ss.length → F3 = 0))) ∧
      (((F3 == 0) = false ∧ RT = false) ∨ (F3 = 0 ∧ RvAt w 50 #[.slice a0 n0 c0, .string t, .agg #[.int .i64 C, .slice a7 n7 c7]] (.bool RT))) ∧
      RvAt w 51 #[.slice a0 n0 c0, .string t, .agg #[.int .i64 C, .slice a7 n7 c7]] (.tuple #[.bool RT, errV F3]) := by
  rcases hp with ⟨h0, hR⟩ | ⟨rfl, l, rfl, h1, h12, ⟨bk, ok, rfl, hS⟩, hok, ht, hR⟩
  · have hb : (F == 0) = false := by simpa using h0
    exact ⟨false, false, F, F, F, false, .inr ⟨hb, rfl⟩, .inr ⟨rfl, rfl⟩, .inr (.inr ⟨hb, rfl⟩), .inr ⟨rfl, rfl⟩, .inl ⟨hb, rfl⟩, .inl ⟨hb, rfl⟩, fun w1 hb1 => by rw [errV_ne h0]; exact rverify_nr _ _ t C F w1 (Lib.hid fun w2 hb2 => hR w2 (below_seq hb1 hb2))⟩
  subst hn7
  have hR' : ∀ w1 : World, Below w.heap.size w w1 → RvAt w1 105 #[.slice (some ⟨bk, ok, none⟩) l.length c0, .string t] (.tuple #[.string (lsB l.length l), .nilIface]) := fun w1 hb1 w2 hb2 => hR w2 (below_seq hb1 hb2)
  by_cases hnn : zs.length = l.length
  case neg =>
    exact ⟨true, false, 3, 3, 3, false, .inl ⟨rfl, by rw [bne_iff_ne]; omega⟩, .inl ⟨rfl, rfl⟩, .inr (.inr ⟨rfl, rfl⟩), .inr ⟨rfl, rfl⟩, .inl ⟨rfl, rfl⟩, .inl ⟨rfl, rfl⟩, fun w1 hb1 => rverify_nsh l.length zs.length _ a7 c0 c7 _ t C w1 hnn j7 j0 (Lib.hid (hR' w1 hb1))⟩
  have hB : ((zs.length : Int) != (l.length : Int)) = false := by rw [hnn]; simp
  by_cases hC : 0 ≤ C ∧ C < 1013
  case neg =>
    exact ⟨false, true, 0, 1, 1, false, .inl ⟨rfl, hB⟩, .inr ⟨rfl, rfl⟩, .inr (.inl ⟨rfl, decide_eq_false hC, rfl⟩), .inl ⟨rfl, rfl⟩, .inl ⟨rfl, rfl⟩, .inl ⟨rfl, rfl⟩, fun w1 hb1 => by rw [hnn]; exact rverify_nc l.length _ a7 c0 c7 _ t C w1 hC j0 (Lib.hid (hR' w1 hb1))⟩
  have bC : resB C = true := decide_eq_true hC
  obtain ⟨q0, hq1, hq2, hq3⟩ := first_not (fun i => resB (zs.getD i 0)) l.length
  have hq2' : ∀ i (h : i < zs.length), i < q0 → resB zs[i] = true := fun i hi hiq => by
    have := hq2 i hiq
    rw [getD_at hi] at this
    exact this
  have hiv : ∀ w1 : World, Below w.heap.size w w1 → IntSl w1 (.slice a7 zs.length c7) zs := fun w1 hb1 => ⟨a7, c7, rfl, fun h => by obtain ⟨b, off, e, hi⟩ := hI h; exact ⟨b, off, e, hi.below hb1⟩⟩
  by_cases hq : q0 < l.length
  · have hqs : q0 < zs.length := by omega
    have h3 := hq3 hq
    rw [getD_at hqs] at h3
    refine ⟨false, false, 0, 0, 1, false, .inl ⟨rfl, hB⟩, .inr ⟨rfl, rfl⟩, .inl ⟨rfl, bC, rfl⟩, .inr ⟨rfl, rfl⟩, .inr ⟨rfl, zs, q0, rfl, hI, by omega, hq2', fun _ => ⟨h3, rfl⟩, fun e => absurd hqs (by omega)⟩, .inl ⟨rfl, rfl⟩, fun w1 hb1 => ?_⟩
    have ha : zs.all okR = false := by
      cases e : zs.all okR
      · rfl
      · have := all_okR e q0 hqs
        rw [show okR zs[q0] = false from h3] at this; cases this
    have hiv1 := hiv w1 hb1
    rw [hnn] at hiv1 ⊢
    exact rverify_ns l.length _ a7 c0 c7 zs _ t C w1 hC.1 hC.2 j0 (Lib.hid hnn) hiv1 ha (Lib.hid (hR' w1 hb1))
  · have ha : zs.all okR = true := by
      rw [List.all_eq_true]
      intro x hx
      obtain ⟨i, hi, rfl⟩ := List.getElem_of_mem hx
      exact hq2' i hi (by omega)
    obtain ⟨us, hus⟩ := all_sqr l hok
    have hsv : ∀ w1 : World, Below w.heap.size w w1 → SpSl w1 (.slice (some ⟨bk, ok, none⟩) l.length c0) l := fun w1 hb1 => ⟨_, c0, rfl, fun _ => ⟨bk, ok, rfl, hS.below hb1⟩⟩
    exact ⟨false, false, 0, 0, 0, _, .inl ⟨rfl, hB⟩, .inr ⟨rfl, rfl⟩, .inl ⟨rfl, bC, rfl⟩, .inr ⟨rfl, rfl⟩, .inr ⟨rfl, zs, q0, rfl, hI, by omega, hq2', fun h => absurd h (by omega), fun _ => rfl⟩,
      .inr ⟨rfl, fun w1 hb1 => rRingRight_c us l zs _ _ t C _ w1 h1 h12 (Lib.hid hus) hnn ha hC.1 hC.2 ht (hsv w1 hb1) (hiv w1 hb1) (Lib.hid rfl)⟩, fun w1 hb1 => rverify_e us l zs _ _ t C _ w1 (hF.below hb1) h1 h12 (Lib.hid hus) hnn ha hC.1 hC.2 ht (hsv w1 hb1) (hiv w1 hb1) (Lib.hid rfl)⟩
/-- Both together: what is wrong with the keys, with keys and text. -/
theorem rt_head (w : World) (hF : FarAt w) (v : Value) (hv : SpotsV w v) (t : ByteArray) (hz : t.size ≤ 140737488351232) : ∃ (a : Option Addr) (n cap : Nat) (E0 F : Int), v = .slice a n cap ∧ n ≤ 9223372036854775807 ∧ RvAt w 44 #[v] (.int .i64 E0) ∧ RvAt w 45 #[v, .string t] (.int .i64 F) ∧ RtK w a n cap t F ∧
    ((E0 ≠ 0 ∧ F = E0 ∧ RvAt w 103 #[v] (.tuple #[.string ⟨#[]⟩, .iface 118 (.int .i64 E0)])) ∨
      (E0 = 0 ∧ ∃ L : ByteArray, L.size ≤ 100 ∧ RvAt w 103 #[v] (.tuple #[.string L, .nilIface]) ∧ RvAt w 102 #[v] (.string L) ∧ ((F ≠ 0 ∧ RvAt w 105 #[v, .string t] (.tuple #[.string ⟨#[]⟩, .iface 118 (.int .i64 F)])) ∨ (F = 0 ∧ t.size ≤ 60 ∧ RvAt w 105 #[v, .string t] (.tuple #[.string L, .nilIface]))))) := by
  rcases rt_keys w hF v hv with ⟨a, n, cap, rfl, hn, m, hm, kS, kL⟩ | ⟨a, cap, l, rfl, h12, hS, hok, kS⟩
  · have kR : RvAt w 105 #[.slice a n cap, .string t] (.tuple #[.string ⟨#[]⟩, .iface 118 (.int .i64 m)]) := fun w1 hb => ready_nl _ t m w1 (Lib.hid fun w2 hb2 => kL w2 (below_seq hb hb2))
    exact ⟨a, n, cap, m, m, rfl, hn, kS, fun w1 hb => rRing_e a n cap t m m w1 hz (Lib.hid fun w2 hb2 => kS w2 (below_seq hb hb2)) (Lib.hid (by unfold ringF; rw [if_neg hm])), .inl ⟨hm, kR⟩, .inl ⟨hm, rfl, kL⟩⟩
  · have hsv : ∀ w1 : World, Below w.heap.size w w1 → SpSl w1 (.slice a l.length cap) l := fun w1 hb1 => ⟨a, cap, rfl, fun h => by obtain ⟨b, off, e, hs⟩ := hS h; exact ⟨b, off, e, hs.below hb1⟩⟩
    have kL : RvAt w 103 #[.slice a l.length cap] (.tuple #[.string (lsB l.length l), .nilIface]) := fun w1 hb => list_sl l _ w1 (hF.below hb) h12 (hsv w1 hb) hok
    have kRL : RvAt w 102 #[.slice a l.length cap] (.string (lsB l.length l)) := fun w1 hb => rlist_sl l _ w1 h12 (hsv w1 hb) hok
    have hLz : (lsB l.length l).size ≤ 100 := by have := lsB_size l.length l; omega
    have kRg : ∀ F, ringF 0 l.length t.size = F → RvAt w 45 #[.slice a l.length cap, .string t] (.int .i64 F) := fun F hF' w1 hb => rRing_e a l.length cap t 0 F w1 hz (Lib.hid fun w2 hb2 => kS w2 (below_seq hb hb2)) (Lib.hid hF')
    by_cases h0 : l.length = 0
    · have kR : RvAt w 105 #[.slice a l.length cap, .string t] (.tuple #[.string ⟨#[]⟩, .iface 118 (.int .i64 5)]) := fun w1 hb => by rw [h0]; exact ready_none a cap t w1
      exact ⟨a, _, cap, 0, 5, rfl, by omega, kS, kRg 5 (by unfold ringF; rw [if_pos rfl, if_pos h0]), .inl ⟨by decide, kR⟩, .inr ⟨rfl, _, hLz, kL, kRL, .inl ⟨by decide, kR⟩⟩⟩
    · by_cases h60 : 60 < t.size
      · have kR : RvAt w 105 #[.slice a l.length cap, .string t] (.tuple #[.string ⟨#[]⟩, .iface 118 (.int .i64 4)]) := fun w1 hb => ready_text l _ t w1 (hF.below hb) (by omega) h12 (hsv w1 hb) hok h60 hz
        exact ⟨a, _, cap, 0, 4, rfl, by omega, kS, kRg 4 (by unfold ringF; rw [if_pos rfl, if_neg h0, if_pos h60]), .inl ⟨by decide, kR⟩, .inr ⟨rfl, _, hLz, kL, kRL, .inl ⟨by decide, kR⟩⟩⟩
      · have kR : RvAt w 105 #[.slice a l.length cap, .string t] (.tuple #[.string (lsB l.length l), .nilIface]) := fun w1 hb => ready_e l _ t w1 (hF.below hb) (by omega) h12 (hsv w1 hb) hok (by omega)
        exact ⟨a, _, cap, 0, 0, rfl, by omega, kS, kRg 0 (by unfold ringF; rw [if_pos rfl, if_neg h0, if_neg h60]), .inr ⟨rfl, l, rfl, by omega, h12, hS (by omega), hok, by omega, kR⟩, .inr ⟨rfl, _, hLz, kL, kRL, .inr ⟨rfl, by omega, kR⟩⟩⟩
theorem ringTells_law (v0 : Value) (r : Sp) (t : ByteArray) (hz : t.size ≤ 140737488351232) (at' : Int) (wat : (Lit.int .i64 at').wf = true) (x : Int) (wx : (Lit.int .i64 x).wf = true) (k : Int) (wk : (Lit.int .i64 k).wf = true) (v6 : Value) (C : Int) (u7 : Value) (w : World) (o0 : SpotsV w v0) (o6 : IntsV w v6) (o7 : IntsV w u7) (hL : FarAt w ∧ ErrAt w) :
    Calls Tryd.prog 7 #[v0, spV r, .string t, .int .i64 at', .int .i64 x, .int .i64 k, v6, .agg #[.int .i64 C, u7]] w fun e w' => e = .returned (.bool true) ∧ Below w.heap.size w w' := by
  obtain ⟨ss, ⟨a6, c6, rfl, i6⟩, m6, -⟩ := o6.sl
  obtain ⟨zs, ⟨a7, c7, rfl, i7⟩, m7, -⟩ := o7.sl
  obtain ⟨a0, n0, c0, E0, F, rfl, j0, kS, kRg, hK, hA⟩ := rt_head w hL.1 v0 o0 t hz
  obtain ⟨E1, E2, N, g1, g2, g3, kAsk⟩ := rt_ask _ r t w hL.1 E0 F hA
  obtain ⟨B81, B105, E3, E4, E5, E6, CW, WL, hWl, g4, g5, g6, g7, g8, g9, g10, kSg⟩ := rt_sign a0 a6 n0 ss.length c0 c6 ss t at' x k F w hL.1 rfl j0 m6 i6 (wf64 wx).1 (wf64 wx).2 hK
  obtain ⟨B183, B192, F1, F2, F3, RT, g11, g12, g13, g14, g15, g16, kVer⟩ := rt_ver a0 a7 n0 zs.length c0 c7 zs t C F w hL.1 rfl j0 m7 i7 hK
  exact rt_core a0 a6 a7 n0 ss.length zs.length c0 c6 c7 r t at' x k C w hL.2 m6 m7 E0 E1 F E2 N E3 E4 E5 E6 CW F1 F2 F3 WL (Lib.hid hWl) B81 _ _ B105 B183 _ B192 RT (Lib.hid kS) (Lib.hid g1) (Lib.hid kRg) (Lib.hid g2) (Lib.hid g3) (Lib.hid kAsk) (Lib.hid g4) (Lib.hid g5) (Lib.hid rfl) (Lib.hid rfl) (Lib.hid g6) (Lib.hid g7) (Lib.hid g8) (Lib.hid g9) (Lib.hid g10) (Lib.hid kSg) (Lib.hid g11) (Lib.hid g12) (Lib.hid rfl) (Lib.hid g13) (Lib.hid g14) (Lib.hid g15) (Lib.hid g16) (Lib.hid kVer)
end Go.Proofs.YtfnifdmnbccblaaDoor
namespace Go.Proofs.YtfnifdmnbccblaaDoor
open Go.ChangeShapes Go.WideShapes Go.ChangeAt Go.WideMaps Go.WideElems Go.RowKit
set_option maxRecDepth 100000
abbrev farLaid : List (String × DataW Unit) := [("pairstone/curve.Far", Rows.laid_pairstone_curve_Far)]
theorem gFar : Tryd.prog.globalNamed "pairstone/curve.Far" = some 0 := by kernel_rfl
theorem tFar : (Tryd.prog.globals[0]?).map (·.type) = some 25 := by kernel_rfl
/-- The door's own heap meets the condition. -/
theorem farLaid_met (os : Os) (args : Array Value) : laidMetH Tryd.prog farLaid ((World.doorLaid Tryd.prog 400 os).forCall (fun _ _ => 0) ⟨#[], args, []⟩).memory :=
  laidMetH_of_parts3 (fuel := 8) (laidMet_of_run' 8 (by kernel_rfl) (by kernel_rfl)) (by kernel_rfl) (by kernel_rfl)
theorem lt_of_cell {w : World} {b o : Nat} {v : Value} (h : w.cell? ⟨b, o, none⟩ = some v) : b < w.heap.size := by
  rcases Nat.lt_or_ge b w.heap.size with h1 | h1
  · exact h1
  · simp [World.cell?, Array.getElem?_eq_none h1] at h
theorem farLaid_at {W : World} (h : laidMetH Tryd.prog farLaid W) : FarAt W := by
  rw [MakeChecks.laidMetH_plain _ _ _ (by kernel_rfl)] at h
  obtain ⟨ps, ⟨g0, t0, cs0, f0, p0, q0, hg0, ht0, hv0, hd0, _, _⟩, _, _⟩ := h
  obtain rfl := Option.some.inj (gFar.symm.trans hg0)
  obtain rfl := Option.some.inj (tFar.symm.trans ht0)
  obtain ⟨y0, y1, y2, n, hx, hlen, h0, h1, h2⟩ := Deep.trod_struct3 Tryd.underlying25 hd0
  simp only [Rows.laid_pairstone_curve_Far, Prod.mk.injEq, DataW.agg.injEq, List.cons.injEq, and_true] at hx
  obtain ⟨⟨e0, e1, e2⟩, _⟩ := hx
  obtain ⟨a, c0, rfl, _⟩ := DataW.trod_int Tryd.underlying3 h0
  obtain ⟨b, c1, rfl, _⟩ := DataW.trod_int Tryd.underlying3 h1
  obtain ⟨f, c2, rfl⟩ := DataW.trod_bool Tryd.underlying4 h2
  have k3 : Tryd.prog.cellsOf 25 = 3 := by kernel_rfl
  have ki : Tryd.prog.cellsOf 3 = 1 := by kernel_rfl
  have kb : Tryd.prog.cellsOf 4 = 1 := by kernel_rfl
  obtain ⟨l⟩ := cs0
  have h3 : l.length = 3 := by simpa using hlen.trans k3
  match l, h3 with
  | [x, y, z], _ =>
    simp [ki, kb] at c0 c1 c2
    subst c0 c1 c2
    have v0 := World.var?_cell hg0 hv0 0
    have v1 := World.var?_cell hg0 hv0 1
    have v2 := World.var?_cell hg0 hv0 2
    simp at e0 e1 e2 v0 v1 v2
    subst e0 e1 e2
    exact ⟨v0, v1, v2, lt_of_cell v0⟩
end Go.Proofs.YtfnifdmnbccblaaDoor
namespace Go.Proofs.YtfnifdmnbccblaaDoor
open Go.ChangeShapes Go.WideShapes Go.ChangeAt Go.WideMaps Go.WideElems Go.RowKit
set_option maxRecDepth 100000
theorem gErr : Tryd.prog.globalNamed "errors.errorType" = some 2 := by kernel_rfl
theorem cutR : (Tryd.prog.cutTypes.find? (·.1 == "internal/reflectlite.rtype")).map (·.2) = some 183 := by kernel_rfl
theorem rowError : ((List.range Tryd.prog.types.size).filter fun t => Tryd.prog.rowNamed t [101, 114, 114, 111, 114]) = [27] := by kernel_rfl
/-- What the condition on the variable says of its cell. -/
theorem err_of_handles {l : List (String × DataW Unit)} {W : World} (h : handlesMet Tryd.prog l W) (hm : ("errors.errorType", Rows.laid_errors_errorType) ∈ l) : ErrAt W := by
  obtain ⟨name, u, ty, e1, e2, e3, e4, e5⟩ := h _ hm
  have en : name = [101, 114, 114, 111, 114] := (Option.some.inj e1).symm
  subst en
  obtain rfl := Option.some.inj (cutR.symm.trans e2)
  have hm : ty ∈ (List.range Tryd.prog.types.size).filter fun t => Tryd.prog.rowNamed t [101, 114, 114, 111, 114] := List.mem_filter.2 ⟨List.mem_range.2 e3, e4⟩
  rw [rowError] at hm
  obtain rfl := List.mem_singleton.1 hm
  have hh : typeHandle Tryd.prog 27 = .pointer (some ⟨3, 27, none⟩) := by kernel_rfl
  rw [hh] at e5
  have v := World.var?_cell gErr e5 0
  simp at v
  exact ⟨v, lt_of_cell v⟩
abbrev errLaid : List (String × DataW Unit) := [("errors.errorType", Rows.laid_errors_errorType)]
abbrev farErrLaid : List (String × DataW Unit) := [("pairstone/curve.Far", Rows.laid_pairstone_curve_Far), ("errors.errorType", Rows.laid_errors_errorType)]
theorem errLaid_met (os : Os) (args : Array Value) : laidMetH Tryd.prog errLaid ((World.doorLaid Tryd.prog 400 os).forCall (fun _ _ => 0) ⟨#[], args, []⟩).memory :=
  laidMetH_of_parts ⟨[], rfl, List.nodup_nil, fun _ _ h => by cases h⟩ (by kernel_rfl)
theorem farErrLaid_met (os : Os) (args : Array Value) : laidMetH Tryd.prog farErrLaid ((World.doorLaid Tryd.prog 400 os).forCall (fun _ _ => 0) ⟨#[], args, []⟩).memory :=
  laidMetH_of_parts (laidMet_of_run' 8 (by kernel_rfl) (by kernel_rfl)) (by kernel_rfl)
theorem errLaid_at {W : World} (h : laidMetH Tryd.prog errLaid W) : ErrAt W := by
  have h' : laidMet Tryd.prog [] W ∧ handlesMet Tryd.prog errLaid W := h
  exact err_of_handles h'.2 (by simp)
theorem farErrLaid_at {W : World} (h : laidMetH Tryd.prog farErrLaid W) : FarAt W ∧ ErrAt W := by
  have h' : laidMet Tryd.prog farLaid W ∧ handlesMet Tryd.prog errLaid W := h
  exact ⟨farLaid_at (by rw [MakeChecks.laidMetH_plain _ _ _ (by kernel_rfl)]; exact h'.1), err_of_handles h'.2 (by simp)⟩
end Go.Proofs.YtfnifdmnbccblaaDoor
namespace Go.Proofs.YtfnifdmnbccblaaDoor
open Go.RowKit
set_option maxRecDepth 100000
theorem headL : ∃ l : List Char, Tryd.prog.initOrder = String.ofList l ∧ ((behindMainWord (wordsSigns l)).head? = some "cut".toList ∧
    (match wordsSigns l with
      | h :: s :: _ => if !isSumSigns s then none else if h == "harness".toList then some (true, s) else if h == "ownmain".toList then some (false, s) else none
      | _ => none) = some (true, "8bff7fe31cad154e1d9054f52751277758ee41cf373a73bb2e4a30f27c527906".toList)) := by
  refine ⟨?l, ?h1, ?h2, ?h3⟩
  case h1 =>
    unfold Tryd.prog
    first | rfl | (dsimp only; rfl)
  case h2 => kernel_rfl
  case h3 => kernel_rfl
theorem headCut : ∃ r, behindMainWord (wordsSigns Tryd.prog.initOrder.toList) = "cut".toList :: r := by
  obtain ⟨l, h, hw, -⟩ := headL
  rw [h, String.toList_ofList]
  cases e : behindMainWord (wordsSigns l) with
  | nil => rw [e] at hw; cases hw
  | cons c r => rw [e] at hw; exact ⟨r, by rw [Option.some.inj hw]⟩
theorem mainIsK : Tryd.prog.mainIs = some (true, "8bff7fe31cad154e1d9054f52751277758ee41cf373a73bb2e4a30f27c527906".toList) := by
  obtain ⟨l, h, -, hm⟩ := headL
  unfold Program.mainIs; rw [h, String.toList_ofList]; exact hm
theorem mayEnterK : Tryd.prog.mayEnter = true := by
  obtain ⟨r, h⟩ := headCut
  unfold Program.mayEnter; rw [h]; kernel_rfl
theorem headLiftsK : Tryd.prog.headLifts = [] := by
  obtain ⟨r, h⟩ := headCut
  unfold Program.headLifts; rw [h]; kernel_rfl
theorem liftsFinalK : Tryd.prog.liftsFinal = false := by
  obtain ⟨r, h⟩ := headCut
  unfold Program.liftsFinal; rw [h, headLiftsK]; kernel_rfl
theorem makeK : Tryd.prog.make = some .cut := by
  obtain ⟨r, h⟩ := headCut
  unfold Program.make; rw [h]; kernel_rfl
end Go.Proofs.YtfnifdmnbccblaaDoor
namespace Go.Proofs.YtfnifdmnbccblaaDoor.ringTells
open Go.ChangeShapes Go.WideShapes Go.ChangeAt Go.RowKit
set_option linter.unusedVariables false
theorem typesOk : ([34, 25, 9, 3, 3, 3, 22, 76].all fun t => Tryd.prog.readableRec t && decide (t < Tryd.prog.types.size)) = true := by kernel_rfl
set_option maxRecDepth 100000 in
theorem lifted (os : Os) (started : os.Started) (H : Type) (enc : TypeId × Value → H) :
    ReturnsInHanded {} Tryd.checked os 7 .any (fun w args => (Rows.ringTellsSpec.pre enc Tryd.prog Tryd.f7 [] false w args ∧ laidMetH Tryd.prog farErrLaid w) ∧ sizedMet enc Tryd.prog Tryd.f7 (OpenSpec.ofChange Rows.ringTellsSpec) false w args)
      (Rows.ringTellsSpec.post enc Tryd.prog Tryd.f7 false true false false) := by
  refine returnsInHanded_of_change_and (C := Tryd.checked) (X := fun w _ => laidMetH Tryd.prog farErrLaid w) (fun _ _ _ hh h => h.of_heap hh) Tryd.ownK started (by kernel_rfl) Tryd.func7
    (ChangeSpec.witness_shaped (enc := enc) (C := Tryd.checked) (os := os) (X := fun w _ => laidMetH Tryd.prog farErrLaid w) false (World.doorLaid Tryd.prog 400 os) #[.slice none 0 0, .agg #[.int .i64 0, .int .i64 0, .bool false], .string ⟨#[]⟩, .int .i64 0, .int .i64 0, .int .i64 0, .slice none 0 0, .agg #[.int .i64 0, .slice none 0 0]] 8 rfl (World.shaped_of_RefB (by kernel_rfl) (by kernel_rfl)) (by kernel_rfl) (by kernel_rfl) (by kernel_rfl) (farErrLaid_met os _)) ?_
  intro W base args ds gs before hval0 hW hcnd hsz0 hL hholds
  have hval : ∀ (j : Nat) t v, Tryd.f7.params[j]? = some t → args[j]? = some v → Value.okWide Tryd.prog W .any base t v := hval0
  have hW' := hW
  obtain ⟨p, q, hA0, hV, rfl, hfz, hnd⟩ := hW
  have hA : DataW.TrodAll enc Tryd.prog W 0 (fun _ => true) true Tryd.f7.params.toList args.toList ds p := hA0
  obtain ⟨rfl, rfl⟩ := trodVars_none hV
  simp only [List.append_nil] at hW'
  have hlt : ∀ x ∈ p, x.block < W.heap.size := fun x hx => hW'.lt x hx
  have hsz : (DataW.weightsEach Tryd.prog (Tryd.f7.params.toList ++ Rows.ringTellsSpec.plain.varTypes Tryd.prog) (ds ++ [])).all (· ≤ reachBytes) = true := hsz0
  rw [Tryd.params7] at hA hval hsz
  have hK := hA
  obtain ⟨v0, vs0, d0, ds0, p0, q0, hargs, rfl, rfl, h0, r0⟩ := trodAll_cons hA
  obtain ⟨v1, vs1, d1, ds1, p1, q1, rfl, rfl, rfl, h1, r1⟩ := trodAll_cons r0
  obtain ⟨v2, vs2, d2, ds2, p2, q2, rfl, rfl, rfl, h2, r2⟩ := trodAll_cons r1
  obtain ⟨v3, vs3, d3, ds3, p3, q3, rfl, rfl, rfl, h3, r3⟩ := trodAll_cons r2
  obtain ⟨v4, vs4, d4, ds4, p4, q4, rfl, rfl, rfl, h4, r4⟩ := trodAll_cons r3
  obtain ⟨v5, vs5, d5, ds5, p5, q5, rfl, rfl, rfl, h5, r5⟩ := trodAll_cons r4
  obtain ⟨v6, vs6, d6, ds6, p6, q6, rfl, rfl, rfl, h6, r6⟩ := trodAll_cons r5
  obtain ⟨v7, vs7, d7, ds7, p7, q7, rfl, rfl, rfl, h7, r7⟩ := trodAll_cons r6
  obtain ⟨rfl, rfl, rfl⟩ := trodAll_nil r7
  obtain rfl : args = #[v0, v1, v2, v3, v4, v5, v6, v7] := by cases args; simp_all
  have o0 := open_spots Tryd.underlying34 Tryd.underlying25 (by kernel_rfl) (by kernel_rfl) Tryd.underlying3 Tryd.underlying3 Tryd.underlying4 (hval 0 34 v0 rfl rfl) h0
  obtain ⟨a1, b1, f1, rfl, w1, u1⟩ := open_spot Tryd.underlying25 (by kernel_rfl) (by kernel_rfl) Tryd.underlying3 Tryd.underlying3 Tryd.underlying4 (hval 1 25 v1 rfl rfl) h1
  obtain ⟨a2, rfl, rfl, rfl, w2⟩ := ChangeMaps.open_string Tryd.underlying9 (hval 2 9 v2 rfl rfl) h2
  obtain ⟨a3, rfl, rfl, rfl, w3⟩ := open_int Tryd.underlying3 (hval 3 3 v3 rfl rfl) h3
  obtain ⟨a4, rfl, rfl, rfl, w4⟩ := open_int Tryd.underlying3 (hval 4 3 v4 rfl rfl) h4
  obtain ⟨a5, rfl, rfl, rfl, w5⟩ := open_int Tryd.underlying3 (hval 5 3 v5 rfl rfl) h5
  have o6 := open_intl Tryd.underlying22 Tryd.underlying3 (by kernel_rfl) (hval 6 22 v6 rfl rfl) h6
  obtain ⟨a7, u7, rfl, w7, o7⟩ := open_ringed Tryd.underlying76 (by kernel_rfl) (by kernel_rfl) Tryd.underlying3 Tryd.underlying22 Tryd.underlying3 (by kernel_rfl) (hval 7 76 v7 rfl rfl) h7
  have z2 : a2.size ≤ 140737488351232 := by have := sized_string hsz (j := 2) (t := 9) rfl rfl; simpa [reachBytes] using this
  clear hA0 hval0
  refine (ringTells_law v0 ⟨a1, b1, f1⟩ a2 z2 a3 w3 a4 w4 a5 w5 v6 a7 u7 W o0 o6 o7 (farErrLaid_at hL)).mono fun e W' ⟨he, hg⟩ => ?_
  subst he
  exact ⟨_, rfl, post_of_below (pa := _) (pv := []) hW' (fun _ _ _ => (trodAll_cons_mk (shut_bool Tryd.underlying4 _) trodAll_mk0)) (fun sp hsp => trodAll_stays Tryd.laidOutK hg typesOk hK (fun x hx => ⟨hlt x hx, hsp x (by first | exact hx | (simp at hx) | simpa using hx)⟩)) (fun _ _ => rfl) (by simp) hg (ok_one (by kernel_rfl) rfl (okWide_bool_mk Tryd.underlying4 _))⟩

theorem over : Rows.ringTellsRow.holds Tryd.pinned (OpenSpec.ofChange Rows.ringTellsSpec) :=
  OpenClaim.holds_of_wide 7 Tryd.f7 rfl rfl rfl rfl rfl rfl rfl ⟨rfl, rfl, rfl, rfl, rfl⟩ rfl rfl rfl rfl rfl (by kernel_rfl) Tryd.func7 (by show joinedFacts Tryd.prog _ _ _ _ = true; unfold joinedFacts; rw [mayEnterK, liftsFinalK, makeK]; kernel_rfl)
    (of_decide_eq_true (by kernel_rfl)) (by unfold Func.isWrapper; first | (rw [if_pos (by decide +kernel)]; kernel_rfl) | (rw [if_neg (by decide +kernel)]; exact ⟨rfl, rfl⟩))
    (fun os started H enc _ => lifted os started H enc)
theorem card : Rows.RingTellsCardSaid :=
  Claim7.holds_tied_plain_at .later [] [.data, .handle] true (true, "8bff7fe31cad154e1d9054f52751277758ee41cf373a73bb2e4a30f27c527906") true
    over (fun _ h => by cases h) (by kernel_rfl) (fun _ h => by cases h) ringTells_row_tie rfl ⟨rfl, rfl⟩ mainIsK rfl
    (fun f fn hf hfn => by
      obtain rfl : f = 7 := Option.some.inj ((show Tryd.prog.funcNamed "pairstone/stonelaw3.RingTells" = some 7 by kernel_rfl).symm.trans hf) |>.symm
      obtain rfl : fn = Tryd.f7 := (Option.some.inj (Tryd.func7.symm.trans hfn)).symm
      exact ⟨by kernel_rfl, fun j t ht => by
        rw [Tryd.params7] at ht
        have hm : t ∈ ([34, 25, 9, 3, 3, 3, 22, 76] : List TypeId) := by simpa using Array.mem_of_getElem? ht
        have hall : (([34, 25, 9, 3, 3, 3, 22, 76] : List TypeId).all fun u => !Tryd.prog.wantsStandIn u) = true := by kernel_rfl
        exact (show Tryd.prog.wantsStandIn t = false by simpa using List.all_eq_true.1 hall t hm)⟩)
    (by kernel_rfl)
#print axioms card
end Go.Proofs.YtfnifdmnbccblaaDoor.ringTells
