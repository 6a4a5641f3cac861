/- Texts of this claim, in one. -/
import Derived.Test.YtjjmelhhalomaaaGreatDoorM5RunAnswers
import Derived.LaidEql
import Derived.Stop.Asserts
import Derived.RowKitTokens
import Derived.MapKept
import Derived.Test.YtjjmelhhalomaaaGreatDoorPr
import Derived.Test.YtjjmelhhalomaaaGreatDoorWb
import Derived.Test.YtjjmelhhalomaaaGreatDoorCyc
import Derived.Test.YtjjmelhhalomaaaGreatDoorSf
import Derived.Test.YtjjmelhhalomaaaGreatDoorTb
import Derived.Test.YtjjmelhhalomaaaGreatDoorWl
import Derived.Test.YtjjmelhhalomaaaGreatDoorWr
import Derived.Test.YtjjmelhhalomaaaGreatDoorSlr
import Derived.Deep.AppendLies
import Derived.Deep.RegionLaw
import Derived.Deep.RegionHeld3
namespace Go.Proofs.YtjjmelhhalomaaaGreatDoor
open Go.RowKit
set_option maxRecDepth 100000
set_option linter.unusedVariables false
set_option linter.unusedSimpArgs false
attribute [local go_sem ↓] Go.wp_at_zero Go.wp_at_succ
def toldB (s : Sp) : List UInt8 := if s.far then [102, 97, 114] else joinN [s.x.toNat, s.y.toNat]
/-- A spot of small numbers. -/
structure Sm (s : Sp) : Prop where
  x0 : 0 ≤ s.x
  x1 : s.x < 1000000
  y0 : 0 ≤ s.y
  y1 : s.y < 1000000
theorem words_at (l : List Nat) (k : Nat) (c : Nat) (w w1 : World) (cs : Array Value) (t : TypeId) (hw : w1 = w.alloc (.cells cs t)) (hk : k = w.heap.size) (hc : cs = (l.map fun n : Nat => Value.int .i64 (n : Int)).toArray) (hl : l.length ≤ 1000) (hb : ∀ n ∈ l, n < 1000000) (hT : TenAt w) :
    Calls Tryz.prog 141 #[.slice (some ⟨k, 0, none⟩) l.length c] w1 fun e w' => e = .returned (.string (bS (joinN l))) ∧ Below w1.heap.size w1 w' := by
  subst hw
  have h1 := IntSl.made w (l.map fun n : Nat => (n : Int)) k l.length c cs t hk (by rw [hc, List.map_map]; rfl) (by rw [List.length_map])
  exact words_c l _ _ hl hb h1 (hT.below (below_alloc _ _))
set_option maxHeartbeats 4000000 in
theorem told_c (s : Sp) (E : Value) (w : World) (hs : Sm s) (hT : TenAt w) :
    Calls Tryz.prog 137 #[spV s, E] w fun e w' => e = .returned (.tuple #[.string (bS (toldB s)), E]) ∧ Below w.heap.size w w' := by
  obtain ⟨x, y, f⟩ := s
  obtain ⟨x0, x1, y0, y1⟩ := hs
  cases f
  · obtain ⟨a, rfl⟩ : ∃ a : Nat, x = (a : Int) := ⟨x.toNat, by simp at x0; omega⟩
    obtain ⟨b, rfl⟩ : ∃ b : Nat, y = (b : Int) := ⟨y.toNat, by simp at y0; omega⟩
    have e1 : toldB ⟨(a : Int), (b : Int), false⟩ = joinN [a, b] := rfl
    rw [e1]
    have hW := Lib.hid (words_at [a, b] (w.heap.size + 1) 2 (w.alloc (.cells #[.int .i64 (a : Int), .int .i64 (b : Int), .bool false] 28)) _ #[.int .i64 (a : Int), .int .i64 (b : Int)] 3 rfl (by simp) rfl (by show 2 ≤ 1000; decide) (fun n hn => by
      simp only [List.mem_cons, List.not_mem_nil, or_false] at hn
      simp at x1 y1
      rcases hn with rfl | rfl <;> omega) (hT.below (below_alloc _ _)))
    have hb0 := Lib.hid (balloc (below_alloc w (.cells #[.int .i64 (a : Int), .int .i64 (b : Int), .bool false] 28)) (.cells #[.int .i64 (a : Int), .int .i64 (b : Int)] 3))
    clear hT e1
    go_enter Tryz.func137, Tryz.ntmps137
    go_wp2_with fail
    refine hW.out.mono ?_; rintro e w1 ⟨rfl, hb⟩
    have hB := Lib.hid (below_seq hb0.out hb)
    clear hb hW hb0
    go_wp2
    go_ret2
    exact ⟨rfl, hB.out⟩
  · have e1 : toldB ⟨x, y, true⟩ = [102, 97, 114] := rfl
    rw [e1]
    have hb0 := Lib.hid (below_alloc w (.cells #[.int .i64 x, .int .i64 y, .bool true] 28))
    clear e1
    go_enter Tryz.func137, Tryz.ntmps137
    go_wp2
    go_ret2
    exact ⟨rfl, hb0.out⟩
end Go.Proofs.YtjjmelhhalomaaaGreatDoor
namespace Go.Proofs.YtjjmelhhalomaaaGreatDoor
open Go.RowKit Go.Extern.Stop Go.Stop Go.Extern
set_option maxRecDepth 100000
set_option linter.unusedVariables false
set_option linter.unusedSimpArgs false
/-- The error of a line that cannot be read. -/
def badV (k : Int) : Value := .agg #[.iface 84 (.int .i64 k)]
/-! The model's entries for reflectlite, at this program's types. -/
theorem rb_value (t : Addr) (w : World) : (ReflectliteValue.unpack (.iface 106 (.pointer (some t)))).run Tryz.prog w
    = .ok (.agg #[.pointer (some ⟨13, 106, none⟩), .pointer (some ⟨w.heap.size, 0, none⟩), .int .u64 150]) (w.alloc (.cells #[.pointer (some t)] 106)) := by kernel_rfl
theorem rb_type (a : Addr) (w : World) : (ReflectliteValue.methodAny (ReflectliteValue.valueError "reflectlite.Value.Type" 0) (fun t _ _ _ => ReflectliteType.toType t) #[.agg #[.pointer (some ⟨13, 106, none⟩), .pointer (some a), .int .u64 150]]).run Tryz.prog w
    = .ok (.iface 184 (.agg #[.pointer (some ⟨13, 106, none⟩)])) w := by kernel_rfl
theorem rb_kindm (h : Value) (w : World) : (Go.method 384 184 (.agg #[h]) "Kind").run Tryz.prog w = .ok (224, h) w := by kernel_rfl
theorem rb_kind (w : World) : ((ReflectliteType.abiMethod fun t => Functor.map (fun a : Nat => Value.int IntKind.u8 (a : Int)) (Rtype.kind t)) #[.pointer (some ⟨13, 106, none⟩)]).run Tryz.prog w = .ok (.int .u8 22) w := by kernel_rfl
theorem rb_kinde (w : World) : ((ReflectliteType.abiMethod fun t => Functor.map (fun a : Nat => Value.int IntKind.u8 (a : Int)) (Rtype.kind t)) #[.pointer (some ⟨13, 104, none⟩)]).run Tryz.prog w = .ok (.int .u8 25) w := by kernel_rfl
theorem rb_m (z : Sem Value) (f : TypeId → Addr → Nat → Nat → Sem Value) (v : Value) :
    ReflectliteValue.method z f #[v] = (do match ← ReflectliteValue.parts v with | none => z | some (t, a, fl) => f t a fl (fl % 32)) := rfl
theorem rb_parts (a : Addr) (w : World) : (ReflectliteValue.parts (.agg #[.pointer (some ⟨13, 106, none⟩), .pointer (some a), .int .u64 150])).run Tryz.prog w = .ok (some (106, a, 150)) w := by kernel_rfl
theorem rb_nil (a p : Addr) (W : World) (ha : W.cell? a = some (.pointer (some p))) :
    (ReflectliteValue.method (ReflectliteValue.valueError "reflectlite.Value.IsNil" 0) ReflectliteValue.isNil #[.agg #[.pointer (some ⟨13, 106, none⟩), .pointer (some a), .int .u64 150]]).run Tryz.prog W = .ok (.bool false) W := by
  rw [rb_m]
  simp only [Sem.run_bind, rb_parts, Result.andThen]
  simp [ReflectliteValue.isNil, loadVar, isAgg, underlying, Tryz.underlying106, ha, Result.andThen]
theorem rb_elemm (h : Value) (w : World) : (Go.method 384 184 (.agg #[h]) "Elem").run Tryz.prog w = .ok (236, .agg #[h]) w := by kernel_rfl
theorem rb_implm (h : Value) (w : World) : (Go.method 384 184 (.agg #[h]) "Implements").run Tryz.prog w = .ok (237, .agg #[h]) w := by kernel_rfl
theorem rb_assm (h : Value) (w : World) : (Go.method 384 184 (.agg #[h]) "AssignableTo").run Tryz.prog w = .ok (234, .agg #[h]) w := by kernel_rfl
theorem rb_elem (w : World) : (ReflectliteType.method ReflectliteType.elem #[.agg #[.pointer (some ⟨13, 106, none⟩)]]).run Tryz.prog w = .ok (.iface 184 (.agg #[.pointer (some ⟨13, 104, none⟩)])) w := by kernel_rfl
theorem rb_impl (w : World) : (ReflectliteType.relation "Implements" ReflectliteType.implements_ #[.agg #[.pointer (some ⟨13, 104, none⟩)], .iface 184 (.agg #[.pointer (some ⟨13, 30, none⟩)])]).run Tryz.prog w = .ok (.bool true) w := by kernel_rfl
theorem rb_typeof (v : Value) (w : World) : (ReflectliteType.typeOf #[.iface 104 v]).run Tryz.prog w = .ok (.iface 184 (.agg #[.pointer (some ⟨13, 104, none⟩)])) w := by kernel_rfl
theorem rb_ass (w : World) : (ReflectliteType.relation "AssignableTo" ReflectliteType.assignableTo #[.agg #[.pointer (some ⟨13, 104, none⟩)], .iface 184 (.agg #[.pointer (some ⟨13, 104, none⟩)])]).run Tryz.prog w = .ok (.bool true) w := by kernel_rfl
theorem rb_valuee (k : Int) (w : World) : (ReflectliteValue.unpack (.iface 104 (badV k))).run Tryz.prog w
    = .ok (.agg #[.pointer (some ⟨13, 104, none⟩), .pointer (some ⟨w.heap.size, 0, none⟩), .int .u64 153]) (w.alloc (.cells #[.iface 84 (.int .i64 k)] 104)) := by kernel_rfl
theorem rb_elemof (w : World) : (Rtype.elem? 106).run Tryz.prog w = .ok (some 104) w := by kernel_rfl
theorem rb_mk (p : Addr) (w : World) : (ReflectliteValue.mk 104 p ReflectliteValue.flagAddr).run Tryz.prog w = .ok (.agg #[.pointer (some ⟨13, 104, none⟩), .pointer (some p), .int .u64 409]) w := by kernel_rfl
theorem rb_elemv (a p : Addr) (W : World) (ha : W.cell? a = some (.pointer (some p))) :
    (ReflectliteValue.method (ReflectliteValue.valueError "reflectlite.Value.Elem" 0) ReflectliteValue.elem #[.agg #[.pointer (some ⟨13, 106, none⟩), .pointer (some a), .int .u64 150]]).run Tryz.prog W
      = .ok (.agg #[.pointer (some ⟨13, 104, none⟩), .pointer (some p), .int .u64 409]) W := by
  rw [rb_m]
  simp only [Sem.run_bind, rb_parts, Result.andThen]
  simp [ReflectliteValue.elem, loadVar, isAgg, underlying, Tryz.underlying106, ha, Result.andThen, rb_elemof, rb_mk]
theorem rb_s (v x : Value) : ReflectliteValue.set #[v, x] = (do
    let (some (dst, a, fl), some (src, b, _)) := (← ReflectliteValue.parts v, ← ReflectliteValue.parts x)
      | unsupported (.noEntry "extern/(internal/reflectlite.Value).Set.zeroValue")
    if fl / ReflectliteValue.flagAddr % 2 == 0 then unsupported (.noEntry "extern/(internal/reflectlite.Value).Set.unaddressable")
    let val ← loadVar src b
    if ← Rtype.directlyAssignable dst src then storeVar dst a val
    else if ← Rtype.implements dst src then
      if (← Rtype.kind src) == 20 then
        match val with
        | .nilIface => unsupported (.noEntry "extern/reflectlite: a nil value of one interface type handed on as a value of another")
        | _ => storeVar dst a val
      else storeVar dst a (.iface src val)
    else panicString ("reflectlite.Set: value of type " ++ (← Rtype.spelt src) ++ " is not assignable to type " ++ (← Rtype.spelt dst))
    pure (.tuple #[])) := rfl
theorem rb_partsa (a : Addr) (w : World) : (ReflectliteValue.parts (.agg #[.pointer (some ⟨13, 104, none⟩), .pointer (some a), .int .u64 409])).run Tryz.prog w = .ok (some (104, a, 409)) w := by kernel_rfl
theorem rb_partse (a : Addr) (w : World) : (ReflectliteValue.parts (.agg #[.pointer (some ⟨13, 104, none⟩), .pointer (some a), .int .u64 153])).run Tryz.prog w = .ok (some (104, a, 153)) w := by kernel_rfl
theorem rb_direct (w : World) : (Rtype.directlyAssignable 104 104).run Tryz.prog w = .ok true w := by kernel_rfl
theorem rb_load (nb : Nat) (k : Int) (W : World) (hb : W.cell? ⟨nb, 0, none⟩ = some (.iface 84 (.int .i64 k))) : (loadVar 104 ⟨nb, 0, none⟩).run Tryz.prog W = .ok (badV k) W := by
  simp [loadVar, isAgg, underlying, Tryz.underlying104, loadCells, loadCellsFrom, Addr.add, hb, Result.andThen, badV]
theorem rb_store (na : Nat) (k : Int) (old : Value) (W : World) (ht : W.cell? ⟨na, 0, none⟩ = some old) (hf : W.frozen? ⟨na, 0, none⟩ = false) : (storeVar 104 ⟨na, 0, none⟩ (badV k)).run Tryz.prog W = .ok () (W.setCell ⟨na, 0, none⟩ (.iface 84 (.int .i64 k))) := by
  have hc : (badV k).cells = #[.iface 84 (.int .i64 k)] := rfl
  simp [storeVar, hc, storeCells, Addr.add, Result.andThen]
  rw [run_store Tryz.prog W ⟨na, 0, none⟩ _ _ (by rfl)]
  simp [ht, hf]
theorem rb_set (na nb : Nat) (k : Int) (old : Value) (W : World) (hb : W.cell? ⟨nb, 0, none⟩ = some (.iface 84 (.int .i64 k))) (ht : W.cell? ⟨na, 0, none⟩ = some old) (hf : W.frozen? ⟨na, 0, none⟩ = false) :
    (ReflectliteValue.set #[.agg #[.pointer (some ⟨13, 104, none⟩), .pointer (some ⟨na, 0, none⟩), .int .u64 409], .agg #[.pointer (some ⟨13, 104, none⟩), .pointer (some ⟨nb, 0, none⟩), .int .u64 153]]).run Tryz.prog W
      = .ok (.tuple #[]) (W.setCell ⟨na, 0, none⟩ (.iface 84 (.int .i64 k))) := by
  rw [rb_s]
  simp only [Sem.run_bind, rb_partsa, rb_partse, Result.andThen]
  simp [ReflectliteValue.flagAddr, rb_load nb k W hb, Result.andThen, rb_direct, rb_store na k old W ht hf]
theorem but_alloc {S : Nat → Prop} {w a : World} (h : But S w a) (o : Obj) : But S w (a.alloc o) := h.trans (But.of_below (below_alloc a o))
theorem but_set {S : Nat → Prop} {w a : World} {p : Addr} (h : But S w a) (hp : S p.block) (v : Value) : But S w (a.setCell p v) := h.trans (But.setCell hp v)
set_option maxHeartbeats 4000000 in
theorem as_hitB (k : Int) (na : Nat) (old : Value) (w : World) (hg : w.cell? ⟨2, 0, none⟩ = some (.iface 184 (.agg #[.pointer (some ⟨13, 30, none⟩)]))) (hgl : 2 < w.heap.size) (ht0 : w.cell? ⟨na, 0, none⟩ = some old) (hf0 : w.frozen? ⟨na, 0, none⟩ = false) :
    Calls Tryz.prog 61 #[.iface 104 (badV k), .iface 106 (.pointer (some ⟨na, 0, none⟩))] w fun ev w' => ev = .returned (.bool true) ∧ But (fun k => k = na) w w' := by
  have h6 := @run_callFunc_extern Tryz.prog 107 _ (fun args => ReflectliteValue.unpack (args.getD 0 (.tuple #[]))) Tryz.func107 (by kernel_rfl) (by kernel_rfl) (by kernel_rfl) (by kernel_rfl)
  have h7 := @run_callFunc_extern Tryz.prog 108 _ (ReflectliteValue.methodAny (ReflectliteValue.valueError "reflectlite.Value.Type" 0) (fun t _ _ _ => ReflectliteType.toType t)) Tryz.func108 (by kernel_rfl) (by kernel_rfl) (by kernel_rfl) (by kernel_rfl)
  have h8 := @run_callFunc_extern Tryz.prog 109 _ (ReflectliteValue.method (ReflectliteValue.valueError "reflectlite.Value.IsNil" 0) ReflectliteValue.isNil) Tryz.func109 (by kernel_rfl) (by kernel_rfl) (by kernel_rfl) (by kernel_rfl)
  have h27 := @run_callFunc_extern Tryz.prog 224 _ (ReflectliteType.abiMethod fun t => do pure (.int .u8 (← Rtype.kind t))) Tryz.func224 (by kernel_rfl) (by kernel_rfl) (by kernel_rfl) (by kernel_rfl)
  have h37 := @run_callFunc_extern Tryz.prog 236 _ (ReflectliteType.method ReflectliteType.elem) Tryz.func236 (by kernel_rfl) (by kernel_rfl) (by kernel_rfl) (by kernel_rfl)
  have h38 := @run_callFunc_extern Tryz.prog 237 _ (ReflectliteType.relation "Implements" ReflectliteType.implements_) Tryz.func237 (by kernel_rfl) (by kernel_rfl) (by kernel_rfl) (by kernel_rfl)
  have h10 := @run_callFunc_extern Tryz.prog 152 _ (ReflectliteType.typeOf) Tryz.func152 (by kernel_rfl) (by kernel_rfl) (by kernel_rfl) (by kernel_rfl)
  have h35 := @run_callFunc_extern Tryz.prog 234 _ (ReflectliteType.relation "AssignableTo" ReflectliteType.assignableTo) Tryz.func234 (by kernel_rfl) (by kernel_rfl) (by kernel_rfl) (by kernel_rfl)
  have h11 := @run_callFunc_extern Tryz.prog 153 _ (ReflectliteValue.method (ReflectliteValue.valueError "reflectlite.Value.Elem" 0) ReflectliteValue.elem) Tryz.func153 (by kernel_rfl) (by kernel_rfl) (by kernel_rfl) (by kernel_rfl)
  have h12 := @run_callFunc_extern Tryz.prog 154 _ (ReflectliteValue.set) Tryz.func154 (by kernel_rfl) (by kernel_rfl) (by kernel_rfl) (by kernel_rfl)
  have tO := rb_typeof
  have mA := rb_assm
  have a25 := rb_ass
  have v25 := rb_valuee
  have f6 := rb_value
  have f7 := rb_type
  have mK := rb_kindm
  have mE := rb_elemm
  have mI := rb_implm
  have k27 := rb_kind
  have k25 := rb_kinde
  have e27 := rb_elem
  have i25 := rb_impl
  have n8 := rb_nil ⟨w.heap.size, 0, none⟩ ⟨na, 0, none⟩ ((w.alloc (.cells #[.pointer (some ⟨na, 0, none⟩)] 106)).alloc (.cells #[.pointer (some ⟨13, 106, none⟩), .pointer (some ⟨w.heap.size, 0, none⟩), .int .u64 150] 146)) (by simp)
  have hg2 : ((w.alloc (.cells #[.pointer (some ⟨na, 0, none⟩)] 106)).alloc (.cells #[.pointer (some ⟨13, 106, none⟩), .pointer (some ⟨w.heap.size, 0, none⟩), .int .u64 150] 146)).cell? ⟨2, 0, none⟩ = some (.iface 184 (.agg #[.pointer (some ⟨13, 30, none⟩)])) := by
    rw [World.cell?_alloc_lt _ _ ⟨2, 0, none⟩ (by simp; omega), World.cell?_alloc_lt _ _ ⟨2, 0, none⟩ hgl]; exact hg
  have htl : na < w.heap.size := by
    rcases Nat.lt_or_ge na w.heap.size with h | h
    · exact h
    · simp [World.cell?, Array.getElem?_eq_none h] at ht0
  have el := rb_elemv ⟨w.heap.size, 0, none⟩ ⟨na, 0, none⟩ (((w.alloc (.cells #[.pointer (some ⟨na, 0, none⟩)] 106)).alloc (.cells #[.pointer (some ⟨13, 106, none⟩), .pointer (some ⟨w.heap.size, 0, none⟩), .int .u64 150] 146)).alloc (.cells #[.pointer (some ⟨13, 106, none⟩), .pointer (some ⟨w.heap.size, 0, none⟩), .int .u64 150] 146)) (by rw [World.cell?_alloc_lt _ _ ⟨w.heap.size, 0, none⟩ (by simp; omega)]; simp)
  have st := rb_set na (w.heap.size + 1 + 1 + 1) k old ((((w.alloc (.cells #[.pointer (some ⟨na, 0, none⟩)] 106)).alloc (.cells #[.pointer (some ⟨13, 106, none⟩), .pointer (some ⟨w.heap.size, 0, none⟩), .int .u64 150] 146)).alloc (.cells #[.pointer (some ⟨13, 106, none⟩), .pointer (some ⟨w.heap.size, 0, none⟩), .int .u64 150] 146)).alloc (.cells #[.iface 84 (.int .i64 k)] 104))
    (by rw [World.cell?_alloc_at _ _ _ _ (by simp)]; rfl)
    (by rw [World.cell?_alloc_lt _ _ ⟨na, 0, none⟩ (by simp; omega), World.cell?_alloc_lt _ _ ⟨na, 0, none⟩ (by simp; omega), World.cell?_alloc_lt _ _ ⟨na, 0, none⟩ (by simp; omega), World.cell?_alloc_lt _ _ ⟨na, 0, none⟩ htl]; exact ht0)
    (by rw [World.frozen?_alloc_old _ _ ⟨na, 0, none⟩ (by simp; omega), World.frozen?_alloc_old _ _ ⟨na, 0, none⟩ (by simp; omega), World.frozen?_alloc_old _ _ ⟨na, 0, none⟩ (by simp; omega), World.frozen?_alloc_old _ _ ⟨na, 0, none⟩ (Nat.ne_of_lt htl)]; exact hf0)
  go_enter Tryz.func61, Tryz.ntmps61
  go_wp2
  refine wp_loop_rounds 1 ?_
  rw [rounds_succ]
  go_wp2
  go_ret
  exact ⟨rfl, by repeat (first | exact But.refl _ _ | refine but_alloc ?_ _ | refine but_set (S := fun k => k = na) ?_ (show na = na from rfl) _)⟩
end Go.Proofs.YtjjmelhhalomaaaGreatDoor
namespace Go.Proofs.YtjjmelhhalomaaaGreatDoor
open Go.RowKit Go.Extern.Stop Go.Stop Go.Extern
set_option maxRecDepth 100000
set_option linter.unusedVariables false
set_option linter.unusedSimpArgs false
theorem rb_assn (w : World) : (ReflectliteType.relation "AssignableTo" ReflectliteType.assignableTo #[.agg #[.pointer (some ⟨13, 84, none⟩)], .iface 184 (.agg #[.pointer (some ⟨13, 104, none⟩)])]).run Tryz.prog w = .ok (.bool false) w := by kernel_rfl
theorem no_as (v : Value) (x : TypeId) (w : World) : (Instr.typeAssert (.iface 84 v) x 189 true).run Tryz.prog w = .ok (.tuple #[.nilIface, .bool false]) w := run_typeAssert_lacksB Tryz.underlying189 (by kernel_rfl) (by kernel_rfl) v x w
theorem no_unwrap (v : Value) (x : TypeId) (w : World) : (Instr.typeAssert (.iface 84 v) x 192 true).run Tryz.prog w = .ok (.tuple #[.nilIface, .bool false]) w := run_typeAssert_lacksB Tryz.underlying192 (by kernel_rfl) (by kernel_rfl) v x w
theorem no_unwraps (v : Value) (x : TypeId) (w : World) : (Instr.typeAssert (.iface 84 v) x 193 true).run Tryz.prog w = .ok (.tuple #[.nilIface, .bool false]) w := run_typeAssert_lacksB Tryz.underlying193 (by kernel_rfl) (by kernel_rfl) v x w
set_option maxHeartbeats 4000000 in
theorem as_missB (k : Int) (na : Nat) (old : Value) (w : World) (hg : w.cell? ⟨2, 0, none⟩ = some (.iface 184 (.agg #[.pointer (some ⟨13, 30, none⟩)]))) (hgl : 2 < w.heap.size) (ht0 : w.cell? ⟨na, 0, none⟩ = some old) (hf0 : w.frozen? ⟨na, 0, none⟩ = false) :
    Calls Tryz.prog 61 #[.iface 84 (.int .i64 k), .iface 106 (.pointer (some ⟨na, 0, none⟩))] w fun ev w' => ev = .returned (.bool false) ∧ But (fun _ => False) w w' := by
  have h6 := @run_callFunc_extern Tryz.prog 107 _ (fun args => ReflectliteValue.unpack (args.getD 0 (.tuple #[]))) Tryz.func107 (by kernel_rfl) (by kernel_rfl) (by kernel_rfl) (by kernel_rfl)
  have h7 := @run_callFunc_extern Tryz.prog 108 _ (ReflectliteValue.methodAny (ReflectliteValue.valueError "reflectlite.Value.Type" 0) (fun t _ _ _ => ReflectliteType.toType t)) Tryz.func108 (by kernel_rfl) (by kernel_rfl) (by kernel_rfl) (by kernel_rfl)
  have h8 := @run_callFunc_extern Tryz.prog 109 _ (ReflectliteValue.method (ReflectliteValue.valueError "reflectlite.Value.IsNil" 0) ReflectliteValue.isNil) Tryz.func109 (by kernel_rfl) (by kernel_rfl) (by kernel_rfl) (by kernel_rfl)
  have h27 := @run_callFunc_extern Tryz.prog 224 _ (ReflectliteType.abiMethod fun t => do pure (.int .u8 (← Rtype.kind t))) Tryz.func224 (by kernel_rfl) (by kernel_rfl) (by kernel_rfl) (by kernel_rfl)
  have h37 := @run_callFunc_extern Tryz.prog 236 _ (ReflectliteType.method ReflectliteType.elem) Tryz.func236 (by kernel_rfl) (by kernel_rfl) (by kernel_rfl) (by kernel_rfl)
  have h38 := @run_callFunc_extern Tryz.prog 237 _ (ReflectliteType.relation "Implements" ReflectliteType.implements_) Tryz.func237 (by kernel_rfl) (by kernel_rfl) (by kernel_rfl) (by kernel_rfl)
  have h10 := @run_callFunc_extern Tryz.prog 152 _ (ReflectliteType.typeOf) Tryz.func152 (by kernel_rfl) (by kernel_rfl) (by kernel_rfl) (by kernel_rfl)
  have h35 := @run_callFunc_extern Tryz.prog 234 _ (ReflectliteType.relation "AssignableTo" ReflectliteType.assignableTo) Tryz.func234 (by kernel_rfl) (by kernel_rfl) (by kernel_rfl) (by kernel_rfl)
  have h11 := @run_callFunc_extern Tryz.prog 153 _ (ReflectliteValue.method (ReflectliteValue.valueError "reflectlite.Value.Elem" 0) ReflectliteValue.elem) Tryz.func153 (by kernel_rfl) (by kernel_rfl) (by kernel_rfl) (by kernel_rfl)
  have h12 := @run_callFunc_extern Tryz.prog 154 _ (ReflectliteValue.set) Tryz.func154 (by kernel_rfl) (by kernel_rfl) (by kernel_rfl) (by kernel_rfl)
  have tO := rl_typeof
  have mA := rb_assm
  have a25 := rb_assn
  have y1 := no_as
  have y2 := no_unwrap
  have y3 := no_unwraps
  have f6 := rb_value
  have f7 := rb_type
  have mK := rb_kindm
  have mE := rb_elemm
  have mI := rb_implm
  have k27 := rb_kind
  have k25 := rb_kinde
  have e27 := rb_elem
  have i25 := rb_impl
  have n8 := rb_nil ⟨w.heap.size, 0, none⟩ ⟨na, 0, none⟩ ((w.alloc (.cells #[.pointer (some ⟨na, 0, none⟩)] 106)).alloc (.cells #[.pointer (some ⟨13, 106, none⟩), .pointer (some ⟨w.heap.size, 0, none⟩), .int .u64 150] 146)) (by simp)
  have hg2 : ((w.alloc (.cells #[.pointer (some ⟨na, 0, none⟩)] 106)).alloc (.cells #[.pointer (some ⟨13, 106, none⟩), .pointer (some ⟨w.heap.size, 0, none⟩), .int .u64 150] 146)).cell? ⟨2, 0, none⟩ = some (.iface 184 (.agg #[.pointer (some ⟨13, 30, none⟩)])) := by
    rw [World.cell?_alloc_lt _ _ ⟨2, 0, none⟩ (by simp; omega), World.cell?_alloc_lt _ _ ⟨2, 0, none⟩ hgl]; exact hg
  have htl : na < w.heap.size := by
    rcases Nat.lt_or_ge na w.heap.size with h | h
    · exact h
    · simp [World.cell?, Array.getElem?_eq_none h] at ht0
  go_enter Tryz.func61, Tryz.ntmps61
  go_wp2
  refine wp_loop_rounds 1 ?_
  rw [rounds_succ]
  go_wp2
  go_ret
  exact ⟨rfl, by repeat (first | exact But.refl _ _ | refine but_alloc ?_ _)⟩
theorem as_nil (v : Value) (w : World) : Calls Tryz.prog 61 #[.nilIface, v] w fun ev w' => ev = .returned (.bool false) ∧ w' = w := by
  go_enter Tryz.func61, Tryz.ntmps61
  go_wp2
  go_ret
  exact ⟨rfl, rfl⟩
end Go.Proofs.YtjjmelhhalomaaaGreatDoor
namespace Go.Proofs.YtjjmelhhalomaaaGreatDoor
open Go.RowKit
set_option maxRecDepth 100000
set_option linter.unusedVariables false
set_option linter.unusedSimpArgs false
attribute [local go_sem ↓] Go.wp_at_zero Go.wp_at_succ
/-- The names of the errors. -/
def nameB (k : Int) : List UInt8 :=
  if k = 1 then [69, 114, 114, 82, 97, 110, 103, 101] else if k = 4 then [69, 114, 114, 70, 117, 108, 108] else [69, 114, 114, 78, 111, 110, 101]
/-- The errors that a line may give. -/
def ErrK (k : Int) : Prop := k = 1 ∨ k = 4 ∨ k = 5
theorem errno_c (k : Int) (w : World) (h : ErrK k) : Calls Tryz.prog 62 #[.int .i64 k] w fun e w' => e = .returned (.string (bS (nameB k))) ∧ w' = w := by
  rcases h with rfl | rfl | rfl
  all_goals
    go_enter Tryz.func62, Tryz.ntmps62
    go_wp2
    go_ret
    exact ⟨rfl, rfl⟩
/-- What a line gives beside its answer: nothing, that it cannot be read, or an error. -/
def errR (c : Int) : Value := if c = 0 then .nilIface else if c = -1 then .iface 104 (badV 2) else .iface 84 (.int .i64 c)
def ansR (out : List UInt8) (c : Int) : List UInt8 := if c = 0 then out else if c = -1 then [98, 97, 100] else nameB c
def ErrR (c : Int) : Prop := c = 0 ∨ c = -1 ∨ ErrK c
theorem but_below {n : Nat} {S : Nat → Prop} {w a b : World} (hb : Below n w a) (h : But S a b) (hn : n ≤ a.heap.size) (hS : ∀ k, S k → n ≤ k) : Below n w b := hb.trans (h.below hn hS)
set_option maxHeartbeats 4000000 in
theorem answer_c (s out : List UInt8) (c : Int) (w : World) (hc : ErrR c) (hE : ErrAt w)
    (hR : Calls Tryz.prog 60 #[.string (bS s)] w fun e w' => e = .returned (.tuple #[.string (bS out), errR c]) ∧ Below w.heap.size w w') :
    Calls Tryz.prog 30 #[.string (bS s)] w fun e w' => e = .returned (.string (bS (ansR out c))) ∧ Below w.heap.size w w' := by
  replace hR := Lib.hid hR
  have hE' := Lib.hid hE
  clear hE
  rcases hc with rfl | rfl | hk
  · rw [show errR 0 = Value.nilIface from rfl] at hR
    rw [show ansR out 0 = out from rfl]
    go_enter Tryz.func30, Tryz.ntmps30
    go_wp2_with fail
    refine hR.out.mono ?_; rintro e w1 ⟨rfl, hb⟩
    have hB := Lib.hid (balloc (balloc hb (.cells #[.nilIface] 104)) (.cells #[.int .i64 0] 84))
    clear hb hR
    go_wp2_with fail
    refine (as_nil _ _).mono ?_; rintro e w' ⟨rfl, rfl⟩
    go_wp2_with fail
    refine (as_nil _ _).mono ?_; rintro e w' ⟨rfl, rfl⟩
    go_wp2
    go_ret
    exact ⟨rfl, hB.out⟩
  · rw [show errR (-1) = Value.iface 104 (badV 2) from rfl] at hR
    rw [show ansR out (-1) = [98, 97, 100] from rfl]
    go_enter Tryz.func30, Tryz.ntmps30
    go_wp2_with fail
    refine hR.out.mono ?_; rintro e w1 ⟨rfl, hb⟩
    have hz := hb.size
    have hB := Lib.hid (balloc (balloc hb (.cells #[.nilIface] 104)) (.cells #[.int .i64 0] 84))
    have hE2 := hE'.out.below hB.out
    have hA := Lib.hid (as_hitB 2 w1.heap.size .nilIface _ hE2.1 hE2.2 (by rw [World.cell?_alloc_lt _ _ ⟨w1.heap.size, 0, none⟩ (by simp)]; simp) (by simp))
    clear hb hR hE2
    go_wp2_with fail
    refine hA.out.mono ?_; rintro e w2 ⟨rfl, hb2⟩
    have hB2 := Lib.hid (but_below hB.out hb2 hB.out.size (fun k hk => by subst hk; exact hz))
    clear hb2 hA
    go_wp2
    go_ret
    exact ⟨rfl, hB2.out⟩
  · have hne : c ≠ 0 ∧ c ≠ -1 := by rcases hk with rfl | rfl | rfl <;> decide
    have e1 : errR c = .iface 84 (.int .i64 c) := by unfold errR; rw [if_neg hne.1, if_neg hne.2]
    have e2 : ansR out c = nameB c := by unfold ansR; rw [if_neg hne.1, if_neg hne.2]
    rw [e1] at hR
    rw [e2]
    have hN := Lib.hid (fun w1 => errno_c c w1 hk)
    clear hne e1 e2 hk
    go_enter Tryz.func30, Tryz.ntmps30
    go_wp2_with fail
    refine hR.out.mono ?_; rintro e w1 ⟨rfl, hb⟩
    have hz := hb.size
    have hB := Lib.hid (balloc (balloc hb (.cells #[.nilIface] 104)) (.cells #[.int .i64 0] 84))
    have hE2 := hE'.out.below hB.out
    have hA := Lib.hid (as_missB c w1.heap.size .nilIface _ hE2.1 hE2.2 (by rw [World.cell?_alloc_lt _ _ ⟨w1.heap.size, 0, none⟩ (by simp)]; simp) (by simp))
    have k0 : ((w1.alloc (.cells #[.nilIface] 104)).alloc (.cells #[.int .i64 0] 84)).cell? ⟨w1.heap.size + 1, 0, none⟩ = some (.int .i64 0) := by
      rw [World.cell?_alloc_at _ _ _ _ (by simp)]; rfl
    have f0 : ((w1.alloc (.cells #[.nilIface] 104)).alloc (.cells #[.int .i64 0] 84)).frozen? ⟨w1.heap.size + 1, 0, none⟩ = false := by simp
    have l0 : w1.heap.size + 1 < ((w1.alloc (.cells #[.nilIface] 104)).alloc (.cells #[.int .i64 0] 84)).heap.size := by simp
    clear hb hR hE2
    go_wp2_with fail
    refine hA.out.mono ?_; rintro e w2 ⟨rfl, hb2⟩
    have k1 := (World.cell?_of_block (a := ⟨w1.heap.size + 1, 0, none⟩) (hb2.block _ l0 (fun h => h))).trans k0
    have f1 := (World.frozen?_of_block (a := ⟨w1.heap.size + 1, 0, none⟩) (hb2.block _ l0 (fun h => h))).trans f0
    have l1 := Nat.lt_of_lt_of_le l0 hb2.size
    have hB2 := Lib.hid (but_below hB.out hb2 hB.out.size (fun k hk => hk.elim))
    have hE3 := hE'.out.below hB2.out
    have hA2 := Lib.hid (as_hit c ⟨w1.heap.size + 1, 0, none⟩ (.int .i64 0) w2 hE3.1 hE3.2 k1 f1)
    clear hb2 hA k0 f0 l0 hE3 hB
    go_wp2_with fail
    refine hA2.out.mono ?_; rintro e w3 ⟨rfl, hw⟩
    have k2 : w3.cell? ⟨w1.heap.size + 1, 0, none⟩ = some (.int .i64 c) := by
      rw [hw]; refine World.cell?_setCell_same (u := .int .i64 0) _ _ _ ?_
      rw [World.cell?_alloc_lt _ _ ⟨w1.heap.size + 1, 0, none⟩ (by simp; omega), World.cell?_alloc_lt _ _ ⟨w1.heap.size + 1, 0, none⟩ (by simp; omega), World.cell?_alloc_lt _ _ ⟨w1.heap.size + 1, 0, none⟩ (by simp; omega), World.cell?_alloc_lt _ _ ⟨w1.heap.size + 1, 0, none⟩ l1]; exact k1
    have hb3 : Below w.heap.size w w3 := by
      rw [hw]; exact below_set (balloc (balloc (balloc (balloc hB2.out _) _) _) _) (by show w.heap.size ≤ w1.heap.size + 1; omega) _
    have l2 : w1.heap.size + 1 < w3.heap.size := by rw [hw]; simp; omega
    replace hb3 := Lib.hid hb3
    clear hw hA2 k1 f1 l1
    go_wp2_with fail
    refine (hN.out _).mono ?_; rintro e w' ⟨rfl, rfl⟩
    go_wp2
    go_ret
    exact ⟨rfl, hb3.out⟩
end Go.Proofs.YtjjmelhhalomaaaGreatDoor
namespace Go.Proofs.YtjjmelhhalomaaaGreatDoor
open Go.RowKit
set_option maxRecDepth 100000
set_option linter.unusedVariables false
set_option linter.unusedSimpArgs false
attribute [local go_sem ↓] Go.wp_at_zero Go.wp_at_succ
/-- A deed. -/
def dV (many : Int) (text : Bool) (f : Nat) : Value := .agg #[.int .i64 many, .bool text, .func (.func f) #[] #[]]
def deedsL : List MapEntry := [
  { key := .string ⟨#[98, 97, 115, 101]⟩, val := dV 1 false 136, born := 0 },
  { key := .string ⟨#[108, 105, 102, 116]⟩, val := dV 1 false 138, born := 1 },
  { key := .string ⟨#[111, 114, 100, 101, 114]⟩, val := dV 1 false 139, born := 2 },
  { key := .string ⟨#[104, 97, 115, 104]⟩, val := dV 0 true 142, born := 3 },
  { key := .string ⟨#[112, 97, 105, 114]⟩, val := dV 2 false 143, born := 4 },
  { key := .string ⟨#[115, 105, 103, 110]⟩, val := dV 2 true 145, born := 5 },
  { key := .string ⟨#[115, 104, 111, 114, 116]⟩, val := dV 1 true 146, born := 6 },
  { key := .string ⟨#[104, 105, 100, 101]⟩, val := dV 2 false 148, born := 7 },
  { key := .string ⟨#[115, 104, 97, 114, 101, 115]⟩, val := dV 3 false 149, born := 8 }]
def dM (k : Nat) : Obj := .map (deedsL.take k).toArray k
theorem set_new (w : World) (o o' : Obj) : ({ w.alloc o with heap := (w.alloc o).heap.setIfInBounds w.heap.size o' } : World) = w.alloc o' := by
  have ha : (w.heap.push o).setIfInBounds w.heap.size o' = w.heap.push o' := by
    apply Array.ext_getElem?
    intro i
    by_cases h : i = w.heap.size
    · subst h; simp [Array.getElem?_setIfInBounds, Array.getElem?_push]
    · simp [Array.getElem?_setIfInBounds, Array.getElem?_push, h, Ne.symm h]
  show ({ w.alloc o with heap := (w.heap.push o).setIfInBounds w.heap.size o' } : World) = _
  rw [ha]; rfl
theorem ins_map (w : World) (k : Nat) (s : ByteArray) (val : Value) (hs : Instr.findNow .string (.string s) (deedsL.take k) 0 = some none) (he : (deedsL.take k).toArray.push { key := .string s, val := val, born := k } = (deedsL.take (k + 1)).toArray) :
    (Instr.mapUpdate 140 (.map (some w.heap.size)) (.string s) val).run Tryz.prog (w.alloc (dM k)) = .ok () (w.alloc (dM (k + 1))) := by
  have hb : (w.alloc (dM k)).heap[w.heap.size]? = some (.map (deedsL.take k).toArray k) := heap_alloc_new w _
  have hk : Tryz.prog.underlying 9 = some .string := Tryz.underlying9
  have hc : (Instr.checkKey false 10000 9 (.string s)).run Tryz.prog (w.alloc (dM k)) = .ok () (w.alloc (dM k)) := MapKept.run_checkKey (k := .string s) hk (by simp [MapKept.IsKey]) false 9999
  have hst := set_new w (dM k) (dM (k + 1))
  simp only [Instr.mapUpdate, Sem.run_bind, run_underlying Tryz.underlying140, MapKept.run_getObj_map hb, hc, MapKept.run_findKey hk hs, MapKept.run_setObj_map _ hb, Result.andThen]
  rw [he]
  exact congrArg (Result.ok ()) hst
set_option maxHeartbeats 4000000 in
theorem deeds_c (w : World) : Calls Tryz.prog 105 #[] w fun e w' => e = .returned (.map (some w.heap.size)) ∧ w' = w.alloc (dM 9) := by
  have hm : (Instr.makeMap 140 none).run Tryz.prog w = .ok (.map (some w.heap.size)) (w.alloc (dM 0)) := rfl
  have h0 : (Instr.mapUpdate 140 (.map (some w.heap.size)) (.string { data := #[98, 97, 115, 101] }) (.agg #[.int .i64 1, .bool false, .func (.func 136) #[] #[]])).run Tryz.prog (w.alloc (dM 0)) = .ok () (w.alloc (dM 1)) := ins_map w 0 _ _ (by rfl) (by rfl)
  have h1 : (Instr.mapUpdate 140 (.map (some w.heap.size)) (.string { data := #[108, 105, 102, 116] }) (.agg #[.int .i64 1, .bool false, .func (.func 138) #[] #[]])).run Tryz.prog (w.alloc (dM 1)) = .ok () (w.alloc (dM 2)) := ins_map w 1 _ _ (by rfl) (by rfl)
  have h2 : (Instr.mapUpdate 140 (.map (some w.heap.size)) (.string { data := #[111, 114, 100, 101, 114] }) (.agg #[.int .i64 1, .bool false, .func (.func 139) #[] #[]])).run Tryz.prog (w.alloc (dM 2)) = .ok () (w.alloc (dM 3)) := ins_map w 2 _ _ (by rfl) (by rfl)
  have h3 : (Instr.mapUpdate 140 (.map (some w.heap.size)) (.string { data := #[104, 97, 115, 104] }) (.agg #[.int .i64 0, .bool true, .func (.func 142) #[] #[]])).run Tryz.prog (w.alloc (dM 3)) = .ok () (w.alloc (dM 4)) := ins_map w 3 _ _ (by rfl) (by rfl)
  have h4 : (Instr.mapUpdate 140 (.map (some w.heap.size)) (.string { data := #[112, 97, 105, 114] }) (.agg #[.int .i64 2, .bool false, .func (.func 143) #[] #[]])).run Tryz.prog (w.alloc (dM 4)) = .ok () (w.alloc (dM 5)) := ins_map w 4 _ _ (by rfl) (by rfl)
  have h5 : (Instr.mapUpdate 140 (.map (some w.heap.size)) (.string { data := #[115, 105, 103, 110] }) (.agg #[.int .i64 2, .bool true, .func (.func 145) #[] #[]])).run Tryz.prog (w.alloc (dM 5)) = .ok () (w.alloc (dM 6)) := ins_map w 5 _ _ (by rfl) (by rfl)
  have h6 : (Instr.mapUpdate 140 (.map (some w.heap.size)) (.string { data := #[115, 104, 111, 114, 116] }) (.agg #[.int .i64 1, .bool true, .func (.func 146) #[] #[]])).run Tryz.prog (w.alloc (dM 6)) = .ok () (w.alloc (dM 7)) := ins_map w 6 _ _ (by rfl) (by rfl)
  have h7 : (Instr.mapUpdate 140 (.map (some w.heap.size)) (.string { data := #[104, 105, 100, 101] }) (.agg #[.int .i64 2, .bool false, .func (.func 148) #[] #[]])).run Tryz.prog (w.alloc (dM 7)) = .ok () (w.alloc (dM 8)) := ins_map w 7 _ _ (by rfl) (by rfl)
  have h8 : (Instr.mapUpdate 140 (.map (some w.heap.size)) (.string { data := #[115, 104, 97, 114, 101, 115] }) (.agg #[.int .i64 3, .bool false, .func (.func 149) #[] #[]])).run Tryz.prog (w.alloc (dM 8)) = .ok () (w.alloc (dM 9)) := ins_map w 8 _ _ (by rfl) (by rfl)
  go_enter Tryz.func105, Tryz.ntmps105
  go_wp2
  go_ret
  exact ⟨rfl, rfl⟩
def zeroD : Value := .agg #[.int .i64 0, .bool false, .nilFunc]
theorem beq_bS (a b : List UInt8) (h : a ≠ b) : (bS a == bS b) = false := by
  show ((bS a).data == (bS b).data) = false
  rw [beq_eq_false_iff_ne]
  intro e
  exact h (by simpa [bS] using congrArg Array.toList e)
theorem look_c (W : World) (m : Nat) (s : ByteArray) (r : Option (Nat × Value)) (hb : W.heap[m]? = some (dM 9)) (h : Instr.findNow .string (.string s) deedsL 0 = some r) :
    (Instr.lookup 140 (.map (some m)) (.string s) true).run Tryz.prog W = .ok (.tuple #[(r.map (·.2)).getD zeroD, .bool r.isSome]) W := by
  have hb' : W.heap[m]? = some (.map deedsL.toArray 9) := hb
  have hk : Tryz.prog.underlying 9 = some .string := Tryz.underlying9
  have hc := fun e => MapKept.run_checkKey (w := W) (k := .string s) hk (by simp [MapKept.IsKey]) e 9999
  have hz : (zeroValue 138).run Tryz.prog W = .ok zeroD W := by kernel_rfl
  simp only [Instr.lookup, Sem.run_bind, run_underlying Tryz.underlying140, MapKept.run_getObj_map hb', hc, MapKept.run_findKey hk h, Result.andThen, Sem.run_pure]
  cases r with
  | none => simp [hz, Result.andThen]
  | some p => simp [Result.andThen]
end Go.Proofs.YtjjmelhhalomaaaGreatDoor
namespace Go.Proofs.YtjjmelhhalomaaaGreatDoor
structure Z where
  re : F
  im : F
theorem Z.ext' {a b : Z} (h1 : a.re = b.re) (h2 : a.im = b.im) : a = b := by cases a; cases b; simp only at h1 h2; subst h1 h2; rfl
def Z.one : Z := ⟨1, 0⟩
def Z.mul (a b : Z) : Z := ⟨a.re * b.re - a.im * b.im, a.re * b.im + a.im * b.re⟩
def Z.add (a b : Z) : Z := ⟨a.re + b.re, a.im + b.im⟩
def Z.conj (a : Z) : Z := ⟨a.re, -a.im⟩
def Z.norm (a : Z) : F := a.re * a.re + a.im * a.im
def Z.of (a : F) : Z := ⟨a, 0⟩
def Z.pow (a : Z) : Nat → Z
  | 0 => .one
  | n+1 => (a.pow n).mul a
theorem Z.mul_comm (a b : Z) : a.mul b = b.mul a := Z.ext' (by simp only [Z.mul]; grobner) (by simp only [Z.mul]; grobner)
theorem Z.mul_assoc (a b c : Z) : (a.mul b).mul c = a.mul (b.mul c) := Z.ext' (by simp only [Z.mul]; grobner) (by simp only [Z.mul]; grobner)
theorem Z.mul_left_comm (a b c : Z) : a.mul (b.mul c) = b.mul (a.mul c) := by rw [← Z.mul_assoc, Z.mul_comm a b, Z.mul_assoc]
theorem Z.mul_one (a : Z) : a.mul .one = a := Z.ext' (by simp only [Z.mul, Z.one]; grobner) (by simp only [Z.mul, Z.one]; grobner)
theorem Z.one_mul (a : Z) : Z.one.mul a = a := by rw [Z.mul_comm, Z.mul_one]
theorem Z.mul_add (a b c : Z) : a.mul (b.add c) = (a.mul b).add (a.mul c) := Z.ext' (by simp only [Z.mul, Z.add]; grobner) (by simp only [Z.mul, Z.add]; grobner)
theorem Z.conj_mul (a b : Z) : (a.mul b).conj = a.conj.mul b.conj := Z.ext' (by simp only [Z.mul, Z.conj]; grobner) (by simp only [Z.mul, Z.conj]; grobner)
theorem Z.conj_conj (a : Z) : a.conj.conj = a := Z.ext' rfl (by simp only [Z.conj]; grobner)
theorem Z.mul_conj (a : Z) : a.mul a.conj = .of a.norm := Z.ext' (by simp only [Z.mul, Z.conj, Z.norm, Z.of]; grobner) (by simp only [Z.mul, Z.conj, Z.of]; grobner)
theorem Z.norm_mul (a b : Z) : (a.mul b).norm = a.norm * b.norm := by simp only [Z.mul, Z.norm]; grobner
theorem Z.norm_conj (a : Z) : a.conj.norm = a.norm := by simp only [Z.conj, Z.norm]; grobner
theorem Z.norm_of (a : F) : (Z.of a).norm = a * a := by simp only [Z.of, Z.norm]; grobner
theorem Z.of_mul (a b : F) : (Z.of a).mul (.of b) = .of (a * b) := Z.ext' (by simp only [Z.mul, Z.of]; grobner) (by simp only [Z.mul, Z.of]; grobner)
theorem Z.norm_zero {a : Z} (h : a.norm = 0) : a.re = 0 ∧ a.im = 0 := by
  have key : ∀ x y : F, x * x + y * y = 0 → y = 0 := fun x y e => by
    by_cases hy : y = 0
    · exact hy
    · exfalso
      have h1 := mul_inv hy
      refine neg_one_nonsq (x * inv y) ?_
      have e2 : x * inv y * (x * inv y) = (x * x) * (inv y * inv y) := by grobner
      have e3 : x * x = - (y * y) := by grobner
      rw [e2, e3, show -(y*y) * (inv y * inv y) = -((y * inv y) * (y * inv y)) by grobner, h1]; grobner
  have h' : a.re * a.re + a.im * a.im = 0 := h
  exact ⟨key a.im a.re (by grobner), key a.re a.im h'⟩
theorem Z.pow_add (a : Z) (m : Nat) : ∀ n, a.pow (m + n) = (a.pow m).mul (a.pow n)
  | 0 => (Z.mul_one _).symm
  | n+1 => by show (a.pow (m + n)).mul a = _; rw [Z.pow_add a m n, Z.mul_assoc]; rfl
theorem Z.pow_mul (a : Z) (m : Nat) : ∀ n, a.pow (m * n) = (a.pow m).pow n
  | 0 => rfl
  | n+1 => by rw [Nat.mul_succ, Z.pow_add, Z.pow_mul a m n]; rfl
theorem Z.mul_pow (a b : Z) : ∀ n, (a.mul b).pow n = (a.pow n).mul (b.pow n)
  | 0 => (Z.mul_one _).symm
  | n+1 => by
    show ((a.mul b).pow n).mul (a.mul b) = ((a.pow n).mul a).mul ((b.pow n).mul b)
    rw [Z.mul_pow a b n]
    simp only [Z.mul_assoc, Z.mul_left_comm, Z.mul_comm]
theorem Z.one_pow : ∀ n, Z.one.pow n = .one
  | 0 => rfl
  | n+1 => by show (Z.one.pow n).mul .one = _; rw [Z.mul_one, Z.one_pow n]
theorem Z.conj_pow (a : Z) : ∀ n, (a.pow n).conj = a.conj.pow n
  | 0 => Z.ext' rfl (by show -(0 : F) = 0; decide)
  | n+1 => by show ((a.pow n).mul a).conj = _; rw [Z.conj_mul, Z.conj_pow a n]; rfl
theorem Z.of_pow (a : F) : ∀ n : Nat, (Z.of a).pow n = .of (a ^ n)
  | 0 => Z.ext' (by show (1 : F) = a ^ 0; grobner) rfl
  | n+1 => by show ((Z.of a).pow n).mul (.of a) = _; rw [Z.of_pow a n, Z.of_mul]; congr 1
theorem Z.norm_pow (a : Z) : ∀ n : Nat, (a.pow n).norm = a.norm ^ n
  | 0 => by show Z.one.norm = a.norm ^ 0; rw [show Z.one.norm = 1 by decide]; grobner
  | n+1 => by show ((a.pow n).mul a).norm = _; rw [Z.norm_mul, Z.norm_pow a n]; grobner

/-- t + i to the power 4052 is t t + 1, by the kernel, at each t. -/
def qm (a b c d : Nat) : Nat × Nat := ((a * c + (4051 - b) * d) % 4051, (a * d + b * c) % 4051)
def qsq (p : Nat × Nat) : Nat × Nat := qm p.1 p.2 p.1 p.2
def qmul (t : Nat) (p : Nat × Nat) : Nat × Nat := qm p.1 p.2 t 1
def qpow (t : Nat) : Nat × Nat :=
  -- 4052 = 111111010100
  qsq (qsq (qmul t (qsq (qsq (qmul t (qsq (qsq (qmul t (qsq (qmul t (qsq (qmul t (qsq (qmul t (qsq (qmul t (qsq (t, 1))))))))))))))))))
def qok (t : Nat) : Bool := match qpow t with | (a, b) => Nat.beq a ((t * t + 1) % 4051) && Nat.beq b 0
def qall : Nat → Bool
  | 0 => true
  | k+1 => qok k && qall k
theorem qall_ok : qall 4051 = true := by decide +kernel
def eNorm : Nat := 4052
def zn (p : Nat × Nat) : Z := ⟨fi p.1, fi p.2⟩
theorem qm_ok (a b c d : Nat) (hb : b ≤ 4051) : zn (qm a b c d) = (zn (a, b)).mul (zn (c, d)) := by
  have e : fi ((4051 - b : Nat) : Int) = - fi (b : Int) := by rw [← fi_neg]; exact fi_eq.mpr (by omega)
  apply Z.ext'
  · show fi (((a * c + (4051 - b) * d) % 4051 : Nat) : Int) = fi a * fi c - fi b * fi d
    rw [Int.natCast_emod, show ((4051 : Nat) : Int) = 4051 from rfl, fi_mod, Int.natCast_add, Int.natCast_mul, Int.natCast_mul, fi_add, fi_mul, fi_mul, e]; grobner
  · show fi (((a * d + b * c) % 4051 : Nat) : Int) = fi a * fi d + fi b * fi c
    rw [Int.natCast_emod, show ((4051 : Nat) : Int) = 4051 from rfl, fi_mod, Int.natCast_add, Int.natCast_mul, Int.natCast_mul, fi_add, fi_mul, fi_mul]
theorem qm_le (a b c d : Nat) : (qm a b c d).2 ≤ 4051 := by show (a * d + b * c) % 4051 ≤ 4051; omega
theorem qsq_ok (p : Nat × Nat) (n : Nat) (z : Z) (h : p.2 ≤ 4051 ∧ zn p = z.pow n) : (qsq p).2 ≤ 4051 ∧ zn (qsq p) = z.pow (n + n) :=
  ⟨qm_le _ _ _ _, by unfold qsq; rw [qm_ok _ _ _ _ h.1, Z.pow_add, ← h.2]⟩
theorem qmul_ok (t : Nat) (p : Nat × Nat) (n : Nat) (h : p.2 ≤ 4051 ∧ zn p = (zn (t, 1)).pow n) : (qmul t p).2 ≤ 4051 ∧ zn (qmul t p) = (zn (t, 1)).pow (n + 1) :=
  ⟨qm_le _ _ _ _, by unfold qmul; rw [qm_ok _ _ _ _ h.1]; show (zn p).mul _ = _; rw [h.2]; rfl⟩
theorem qpow_ok (t : Nat) : zn (qpow t) = (zn (t, 1)).pow eNorm := by
  have h0 : (t, 1).2 ≤ 4051 ∧ zn (t, 1) = (zn (t, 1)).pow 1 := ⟨(by show 1 ≤ 4051; decide), (Z.one_mul _).symm⟩
  have h1 := qmul_ok t _ _ (qsq_ok _ _ _ h0)
  have h2 := qmul_ok t _ _ (qsq_ok _ _ _ h1)
  have h3 := qmul_ok t _ _ (qsq_ok _ _ _ h2)
  have h4 := qmul_ok t _ _ (qsq_ok _ _ _ h3)
  have h5 := qmul_ok t _ _ (qsq_ok _ _ _ h4)
  have h6 := qmul_ok t _ _ (qsq_ok _ _ _ (qsq_ok _ _ _ h5))
  have h7 := qmul_ok t _ _ (qsq_ok _ _ _ (qsq_ok _ _ _ h6))
  exact (qsq_ok _ _ _ (qsq_ok _ _ _ h7)).2
theorem qall_at : ∀ n, qall n = true → ∀ k, k < n → qok k = true
  | 0, _, _, hk => absurd hk (Nat.not_lt_zero _)
  | n+1, h, k, hk => by
    simp only [qall, Bool.and_eq_true] at h
    rcases Nat.lt_succ_iff_lt_or_eq.mp hk with h1 | h1
    · exact qall_at n h.2 k h1
    · subst h1; exact h.1
theorem frob_ti (t : F) : (Z.mk t 1).pow eNorm = .of ((Z.mk t 1).norm) := by
  have h := qall_at 4051 qall_ok t.val t.isLt
  have e := qpow_ok t.val
  have et : fi (t.val : Int) = t := fi_fz t
  have e1 : zn (t.val, 1) = Z.mk t 1 := Z.ext' et rfl
  rw [e1] at e
  rw [← e]
  unfold qok at h
  generalize qpow t.val = p at *
  obtain ⟨a, b⟩ := p
  simp only [Bool.and_eq_true, Nat.beq_eq] at h
  obtain ⟨ha, hb⟩ := h
  subst ha hb
  apply Z.ext'
  · show fi (((t.val * t.val + 1) % 4051 : Nat) : Int) = t * t + 1 * 1
    rw [Int.natCast_emod, show ((4051 : Nat) : Int) = 4051 from rfl, fi_mod, Int.natCast_add, Int.natCast_mul, fi_add, fi_mul, et]; rfl
  · rfl
theorem fpow_inv {a : F} (h : a ≠ 0) : a ^ (eInv + 1) = 1 := by
  have h1 : a ^ (eInv + 1) = a ^ eInv * a := by grobner
  rw [h1, ← inv_pow]; exact inv_mul h
theorem fpow_4052 (a : F) : a ^ eNorm = a * a := by
  by_cases h : a = 0
  · subst h
    have : (0:F) ^ (eInv + 3) = 0 ^ (eInv + 2) * 0 := by grobner
    rw [show eNorm = eInv + 3 from rfl, this]; grobner
  · have : a ^ (eInv + 3) = a ^ (eInv + 1) * (a * a) := by grobner
    rw [show eNorm = eInv + 3 from rfl, this, fpow_inv h]; grobner
/-- z to the power 4052 is its norm. -/
theorem frob_norm (z : Z) : z.pow eNorm = .of z.norm := by
  by_cases hb : z.im = 0
  · have e : z = .of z.re := Z.ext' rfl hb
    rw [e, Z.of_pow, Z.norm_of, fpow_4052]
  · have e : z = (Z.of z.im).mul ⟨z.re * inv z.im, 1⟩ := by
      have := mul_inv hb
      apply Z.ext'
      · show z.re = z.im * (z.re * inv z.im) - 0 * 1
        rw [show z.im * (z.re * inv z.im) - 0 * 1 = z.re * (z.im * inv z.im) by grobner, this]; grobner
      · show z.im = z.im * 1 + 0 * (z.re * inv z.im); grobner
    generalize (z.re * inv z.im) = t at e
    rw [e, Z.mul_pow, frob_ti, Z.of_pow, Z.of_mul, Z.norm_mul, Z.norm_of, fpow_4052]
/-- The pair of two numbers. -/
def zi (a b : Int) : Z := ⟨fi a, fi b⟩
theorem zi_fz (z : Z) : zi (fz z.re) (fz z.im) = z := Z.ext' (fi_fz _) (fi_fz _)
theorem fz_eq {a : Int} {x : F} (h0 : 0 ≤ a ∧ a < 4051) (h : fi a = x) : a = fz x := by rw [← h, fz_fi]; omega
theorem fz_inj {x y : F} (h : fz x = fz y) : x = y := by rw [← fi_fz x, h, fi_fz]
theorem zmul_re (a b c d : Int) : pSub (pMul a c) (pMul b d) = fz ((zi a b).mul (zi c d)).re := fz_eq (r_pSub _ _) (by rw [fi_pSub, fi_pMul, fi_pMul]; rfl)
theorem zmul_im (a b c d : Int) : pAdd (pMul a d) (pMul b c) = fz ((zi a b).mul (zi c d)).im := fz_eq (r_pAdd _ _) (by rw [fi_pAdd, fi_pMul, fi_pMul]; rfl)
theorem zadd_re (a b c d : Int) : pAdd a c = fz ((zi a b).add (zi c d)).re := fz_eq (r_pAdd _ _) (by rw [fi_pAdd]; rfl)
theorem zadd_im (a b c d : Int) : pAdd b d = fz ((zi a b).add (zi c d)).im := fz_eq (r_pAdd _ _) (by rw [fi_pAdd]; rfl)
theorem zof_re (a b : Int) : pOf a = fz (zi a b).re := fz_eq (r_pOf _) (by rw [pOf, fi_mod]; rfl)
theorem zof_im (a b : Int) : pOf b = fz (zi a b).im := fz_eq (r_pOf _) (by rw [pOf, fi_mod]; rfl)
theorem zconj_im (a b : Int) : pSub 0 b = fz (zi a b).conj.im := fz_eq (r_pSub _ _) (by rw [fi_pSub, fi_zero]; show 0 - fi b = - fi b; grobner)
theorem zconj_re (a b : Int) : pOf a = fz (zi a b).conj.re := fz_eq (r_pOf _) (by rw [pOf, fi_mod]; rfl)
theorem znorm (a b : Int) : pAdd (pMul a a) (pMul b b) = fz (zi a b).norm := fz_eq (r_pAdd _ _) (by rw [fi_pAdd, fi_pMul, fi_pMul]; rfl)
theorem zpow_half (z : Z) (n : Int) (h : 0 ≤ n) : z.pow n.toNat = ((z.mul z).pow (n / 2).toNat).mul (z.pow (n % 2).toNat) := by
  have f : ∀ k : Nat, (z.mul z).pow k = z.pow (k + k) := fun k => by
    induction k with
    | zero => rfl
    | succ k ih => show ((z.mul z).pow k).mul (z.mul z) = _; rw [ih, show k + 1 + (k + 1) = k + k + 1 + 1 by omega]; show _ = ((z.pow (k + k)).mul z).mul z; rw [Z.mul_assoc]
  rw [f, ← Z.pow_add]; congr 1; omega
/-- What holds at the head of the loop of twin.Power. -/
def ZAt (s z o : Z) (n : Int) : Prop := 0 ≤ n ∧ n ≤ 9223372036854775807 ∧ o.mul (z.pow n.toNat) = s
theorem zAt_odd {s z o : Z} {n : Int} (h : ZAt s z o n) (hb : n % 2 = 1) : ZAt s (z.mul z) (o.mul z) (n / 2) := by
  obtain ⟨h1, h2, h3⟩ := h
  refine ⟨by omega, by omega, ?_⟩
  rw [← h3, zpow_half z n h1, hb, show (1 : Int).toNat = 1 from rfl, show z.pow 1 = z from Z.one_mul _, Z.mul_assoc, Z.mul_comm ((z.mul z).pow _) z]
theorem zAt_even {s z o : Z} {n : Int} (h : ZAt s z o n) (hb : n % 2 = 0) : ZAt s (z.mul z) o (n / 2) := by
  obtain ⟨h1, h2, h3⟩ := h
  refine ⟨by omega, by omega, ?_⟩
  rw [← h3, zpow_half z n h1, hb, show (0 : Int).toNat = 0 from rfl, show z.pow 0 = .one from rfl, Z.mul_one]
theorem zAt_end {s z o : Z} {n : Int} (h : ZAt s z o n) (hn : n ≤ 0) : o = s := by
  obtain ⟨h1, _, h3⟩ := h
  have : n = 0 := by omega
  rw [← h3, this, show (0 : Int).toNat = 0 from rfl, show z.pow 0 = .one from rfl, Z.mul_one]
theorem zAt_start (z : Z) (n : Int) (h : 0 ≤ n) (h2 : n ≤ 9223372036854775807) : ZAt (z.pow n.toNat) z .one n := ⟨h, h2, Z.one_mul _⟩
theorem zAt_bd {s z o : Z} {n : Int} (h : ZAt s z o n) : 0 ≤ n ∧ n ≤ 9223372036854775807 := ⟨h.1, h.2.1⟩
theorem zi_two : (zi 0 1).pow (2 : Int).toNat = ⟨4050, 0⟩ := Z.ext' (by decide +kernel) (by decide +kernel)
theorem zi_ii : (zi 0 1).mul (zi 0 1) = ⟨4050, 0⟩ := Z.ext' (by decide +kernel) (by decide +kernel)
theorem zpow_frob (z : Z) : z.pow (4051 : Int).toNat = z.conj := by
  by_cases h : z.norm = 0
  · obtain ⟨h1, h2⟩ := Z.norm_zero h
    have e : z = .of 0 := Z.ext' h1 h2
    rw [e, show (4051 : Int).toNat = eInv + 2 from rfl, Z.of_pow]
    have : (0 : F) ^ (eInv + 2) = 0 ^ (eInv + 1) * 0 := by grobner
    rw [this]; exact Z.ext' (by show (0 : F) ^ (eInv + 1) * 0 = 0; grobner) (by show (0 : F) = -0; decide)
  · have e := frob_norm z
    rw [← Z.mul_conj, show eNorm = (4051 : Int).toNat + 1 from rfl] at e
    have e2 : (z.pow (4051 : Int).toNat).mul z = z.mul z.conj := e
    have k : (z.mul z.conj).mul (.of (inv z.norm)) = .one := by rw [Z.mul_conj, Z.of_mul, mul_inv h]; rfl
    have e3 := congrArg (fun x => x.mul (z.conj.mul (.of (inv z.norm)))) e2
    have l : ∀ x : Z, (x.mul z).mul (z.conj.mul (.of (inv z.norm))) = x := fun x => by
      rw [Z.mul_assoc, ← Z.mul_assoc z, k, Z.mul_one]
    rw [Z.mul_comm z z.conj] at e3
    have e4 : ((z.pow (4051 : Int).toNat).mul z).mul (z.conj.mul (.of (inv z.norm))) = (z.conj.mul z).mul (z.conj.mul (.of (inv z.norm))) := e3
    rw [l, l] at e4; exact e4
theorem fz_zero_iff {x : F} : fz x = 0 ↔ x = 0 := ⟨fun h => fz_inj (h.trans (by decide)), fun h => by rw [h]; decide⟩
theorem znorm_mul (a b : Z) : fz (a.mul b).norm = pMul (fz a.norm) (fz b.norm) := (fz_eq (r_pMul _ _) (by rw [fi_pMul, fi_fz, fi_fz, Z.norm_mul])).symm
theorem zmul_conj_re (a : Z) : fz (a.mul a.conj).re = fz a.norm := by rw [Z.mul_conj]; rfl
theorem zmul_conj_im (a : Z) : fz (a.mul a.conj).im = 0 := by rw [Z.mul_conj]; show fz (0 : F) = 0; decide
theorem znorm_ne {a : Z} (h : a.norm ≠ 0) : pOf (fz a.norm) ≠ 0 := fun e => h (fz_zero_iff.mp (by
  have := fz_lt a.norm; unfold pOf at e; omega))
theorem zinv {a : Z} (h : a.norm ≠ 0) : a.mul (a.conj.mul (zi (pInv (fz a.norm)) 0)) = .one := by
  rw [← Z.mul_assoc, Z.mul_conj]
  have : zi (pInv (fz a.norm)) 0 = .of (inv a.norm) := Z.ext' (by show fi (pInv (fz a.norm)) = _; rw [fi_pInv, fi_fz]; rfl) rfl
  rw [this, Z.of_mul, mul_inv h]; rfl
theorem Z.pow_zero (a : Z) : a.pow 0 = .one := rfl
theorem Z.pow_succ (a : Z) (n : Nat) : a.pow (n + 1) = (a.pow n).mul a := rfl
theorem Z.pow_one (a : Z) : a.pow 1 = a := Z.one_mul _
attribute [irreducible] Z.pow
end Go.Proofs.YtjjmelhhalomaaaGreatDoor
namespace Go.Proofs.YtjjmelhhalomaaaGreatDoor
open Go.RowKit
/-- A number of the greater field, as the program has it. -/
abbrev twR (z : Z) : Value := .agg #[.int .i64 (fz z.re), .int .i64 (fz z.im)]
set_option maxRecDepth 100000 in
set_option maxHeartbeats 400000 in
theorem twinMul_c (a b c d : Int) (w : World) : Calls Tryz.prog 182 #[.agg #[.int .i64 a, .int .i64 b], .agg #[.int .i64 c, .int .i64 d]] w fun e w' => e = .returned (twR ((zi a b).mul (zi c d))) ∧ Below w.heap.size w w' := by
  go_enter Tryz.func182, Tryz.ntmps182
  go_wp2
  refine wp_region_st 23 Tryz.mixed (by kernel_rfl) ?_
  simp only [List.take_succ_cons, List.take_zero, List.drop_succ_cons, List.drop_zero]
  repeat (first | still_step | still_call (stl (primeMul_c _ _ _)) | still_call (stl (primeSub_c _ _ _)) | still_call (stl (primeAdd_c _ _ _)) | still_call (stl (primeOf_c _ _)))
  refine wpStill_nil ?_
  rw [zmul_re, zmul_im]
  go_wp2
  refine bodyPost_ret (v := twR ((zi a b).mul (zi c d))) (by simp [results, Tryz.results182, go_sem]) rfl ⟨rfl, ?_⟩
  repeat (first | exact Below.refl _ _ | refine Below.drew ?_ | refine balloc ?_ _)
structure TwMem (w wr : World) (za zb oa ob : Int) : Prop where
  a0 : wr.cell? ⟨w.heap.size, 0, none⟩ = some (.int .i64 za)
  a1 : wr.cell? ⟨w.heap.size, 1, none⟩ = some (.int .i64 zb)
  o0 : wr.cell? ⟨w.heap.size + 1 + 1, 0, none⟩ = some (.int .i64 oa)
  o1 : wr.cell? ⟨w.heap.size + 1 + 1, 1, none⟩ = some (.int .i64 ob)
  r0 : wr.cell? ⟨w.heap.size + 1, 0, none⟩ = some (.int .i64 0)
  r1 : wr.cell? ⟨w.heap.size + 1, 1, none⟩ = some (.int .i64 0)
  fa0 : wr.frozen? ⟨w.heap.size, 0, none⟩ = false
  fa1 : wr.frozen? ⟨w.heap.size, 1, none⟩ = false
  fo0 : wr.frozen? ⟨w.heap.size + 1 + 1, 0, none⟩ = false
  fo1 : wr.frozen? ⟨w.heap.size + 1 + 1, 1, none⟩ = false
  fr0 : wr.frozen? ⟨w.heap.size + 1, 0, none⟩ = false
  fr1 : wr.frozen? ⟨w.heap.size + 1, 1, none⟩ = false
  sz : w.heap.size + 1 + 1 < wr.heap.size
  bel : Below w.heap.size w wr
theorem TwMem.below {w wr w1 : World} {za zb oa ob : Int} (h : TwMem w wr za zb oa ob) (hb : Below wr.heap.size wr w1) : TwMem w w1 za zb oa ob := by
  obtain ⟨a0, a1, o0, o1, r0, r1, fa0, fa1, fo0, fo1, fr0, fr1, hsz, hbel⟩ := h
  obtain ⟨hc, hf⟩ := bcell hb
  have := hb.size
  exact ⟨(hc _ _ (by omega)).trans a0, (hc _ _ (by omega)).trans a1, (hc _ _ (by omega)).trans o0, (hc _ _ (by omega)).trans o1, (hc _ _ (by omega)).trans r0, (hc _ _ (by omega)).trans r1,
    (hf _ _ (by omega)).trans fa0, (hf _ _ (by omega)).trans fa1, (hf _ _ (by omega)).trans fo0, (hf _ _ (by omega)).trans fo1, (hf _ _ (by omega)).trans fr0, (hf _ _ (by omega)).trans fr1, by omega, hbel.trans (hb.mono hbel.size)⟩
theorem set2_cell {w : World} {b : Nat} {u v x y : Value} (h0 : w.cell? ⟨b, 0, none⟩ = some u) (h1 : w.cell? ⟨b, 1, none⟩ = some v) :
    ((w.setCell ⟨b, 0, none⟩ x).setCell ⟨b, 1, none⟩ y).cell? ⟨b, 0, none⟩ = some x ∧ ((w.setCell ⟨b, 0, none⟩ x).setCell ⟨b, 1, none⟩ y).cell? ⟨b, 1, none⟩ = some y := by
  constructor
  · rw [World.cell?_setCell_other (h := by simp)]; exact World.cell?_setCell_same _ _ _ h0
  · exact World.cell?_setCell_same _ _ _ (by rw [World.cell?_setCell_other (h := by simp)]; exact h1)
theorem set2_other {w : World} {b c k : Nat} {x y : Value} (h : b ≠ c) : ((w.setCell ⟨b, 0, none⟩ x).setCell ⟨b, 1, none⟩ y).cell? ⟨c, k, none⟩ = w.cell? ⟨c, k, none⟩ := by
  rw [World.cell?_setCell_other (h := fun e => h (congrArg Addr.block e)), World.cell?_setCell_other (h := fun e => h (congrArg Addr.block e))]
theorem set2_below {B : Nat} {a w : World} {b : Nat} {x y : Value} (h : Below B a w) (hb : B ≤ b) : Below B a ((w.setCell ⟨b, 0, none⟩ x).setCell ⟨b, 1, none⟩ y) := (h.setCell hb x).setCell hb y
theorem set2_size {w : World} {b : Nat} {x y : Value} : ((w.setCell ⟨b, 0, none⟩ x).setCell ⟨b, 1, none⟩ y).heap.size = w.heap.size := by simp [World.setCell]
theorem TwMem.setO {w wr : World} {za zb oa ob x y : Int} (h : TwMem w wr za zb oa ob) : TwMem w ((wr.setCell ⟨w.heap.size + 1 + 1, 0, none⟩ (.int .i64 x)).setCell ⟨w.heap.size + 1 + 1, 1, none⟩ (.int .i64 y)) za zb x y := by
  obtain ⟨a0, a1, o0, o1, r0, r1, fa0, fa1, fo0, fo1, fr0, fr1, hsz, hbel⟩ := h
  have k := set2_cell (x := .int .i64 x) (y := .int .i64 y) o0 o1
  refine ⟨?_, ?_, k.1, k.2, ?_, ?_, ?_, ?_, ?_, ?_, ?_, ?_, by rw [set2_size]; exact hsz, set2_below hbel (by omega)⟩
  · rw [set2_other (by omega)]; exact a0
  · rw [set2_other (by omega)]; exact a1
  · rw [set2_other (by omega)]; exact r0
  · rw [set2_other (by omega)]; exact r1
  all_goals simp only [World.frozen?_setCell]; assumption
theorem TwMem.setA {w wr : World} {za zb oa ob x y : Int} (h : TwMem w wr za zb oa ob) : TwMem w ((wr.setCell ⟨w.heap.size, 0, none⟩ (.int .i64 x)).setCell ⟨w.heap.size, 1, none⟩ (.int .i64 y)) x y oa ob := by
  obtain ⟨a0, a1, o0, o1, r0, r1, fa0, fa1, fo0, fo1, fr0, fr1, hsz, hbel⟩ := h
  have k := set2_cell (x := .int .i64 x) (y := .int .i64 y) a0 a1
  refine ⟨k.1, k.2, ?_, ?_, ?_, ?_, ?_, ?_, ?_, ?_, ?_, ?_, by rw [set2_size]; exact hsz, set2_below hbel (by omega)⟩
  · rw [set2_other (by omega)]; exact o0
  · rw [set2_other (by omega)]; exact o1
  · rw [set2_other (by omega)]; exact r0
  · rw [set2_other (by omega)]; exact r1
  all_goals simp only [World.frozen?_setCell]; assumption
theorem TwMem.start (w : World) (a b : Int) : TwMem w (((w.alloc (.cells #[.int .i64 a, .int .i64 b] 116)).alloc (.cells #[.int .i64 0, .int .i64 0] 116)).alloc (.cells #[.int .i64 1, .int .i64 0] 116)) a b 1 0 := by
  refine ⟨?_, ?_, ?_, ?_, ?_, ?_, ?_, ?_, ?_, ?_, ?_, ?_, ?_, balloc (balloc (below_alloc _ _) _) _⟩
  all_goals go_simp
set_option maxRecDepth 100000 in
set_option maxHeartbeats 1000000 in
theorem twinPower_c (a b n : Int) (w : World) (hn : 0 ≤ n) (hm : n ≤ 9223372036854775807) : Calls Tryz.prog 184 #[.agg #[.int .i64 a, .int .i64 b], .int .i64 n] w fun e w' => e = .returned (twR ((zi a b).pow n.toNat)) ∧ Below w.heap.size w w' := by
  go_enter Tryz.func184, Tryz.ntmps184
  go_wp2
  go_loopw [1] (fun m wr => ∃ (n' : Int) (z o : Z) (za zb : Int), m = .int .i64 n' ∧ ZAt ((zi a b).pow n.toNat) z o n' ∧ TwMem w wr za zb (fz o.re) (fz o.im) ∧ Hid (zi za zb = z)) (fun m _ => (intOf m).toNat)
  case atStart =>
    exact ⟨n, zi a b, .one, a, b, rfl, zAt_start _ _ hn hm, TwMem.start w a b, rfl⟩
  case round =>
    obtain ⟨n', z, o, za, zb, rfl, h, hm0, hz⟩ := hrel
    have h1 := (zAt_bd h).1
    have h2 := (zAt_bd h).2
    have hm' := hm0
    obtain ⟨a0, a1, o0, o1, r0, r1, fa0, fa1, fo0, fo1, fr0, fr1, hsz, hbel⟩ := hm'
    by_cases hpos : 0 < n'
    · by_cases hodd : n' % 2 = 1
      · have hb1 : (bits BinOp.and IntKind.i64 n' 1 == 1) = true := by rw [and_one64 n' h1 h2]; simpa using hodd
        go_wp2_with fail
        refine (twinMul_c _ _ _ _ _).mono ?_; rintro e w1 ⟨rfl, hb⟩
        have hm1 := hm0.below hb
        clear hm0 a0 a1 o0 o1 r0 r1 fa0 fa1 fo0 fo1 fr0 fr1 hsz hbel hb
        have hm2 := hm1
        obtain ⟨a0, a1, o0, o1, r0, r1, fa0, fa1, fo0, fo1, fr0, fr1, hsz, hbel⟩ := hm2
        go_wp2_with fail
        refine (twinMul_c _ _ _ _ _).mono ?_; rintro e w2 ⟨rfl, hb2⟩
        have hm3 := (hm1.setO (x := fz ((zi (fz o.re) (fz o.im)).mul (zi za zb)).re) (y := fz ((zi (fz o.re) (fz o.im)).mul (zi za zb)).im)).below hb2
        clear hm1 a0 a1 o0 o1 r0 r1 fa0 fa1 fo0 fo1 fr0 fr1 hsz hbel hb2
        have hm4 := hm3
        obtain ⟨a0, a1, o0, o1, r0, r1, fa0, fa1, fo0, fo1, fr0, fr1, hsz, hbel⟩ := hm4
        go_wp2
        clear a0 a1 o0 o1 r0 r1 fa0 fa1 fo0 fo1 fr0 fr1 hsz hbel
        have hz' := hz.out
        rw [zi_fz, hz'] at hm3
        rw [hz']
        go_roundw
        case rel => exact ⟨n' / 2, z.mul z, o.mul z, _, _, rfl, zAt_odd h hodd, hm3.setA, zi_fz _⟩
        case measure => simp [intOf]; omega
      · have hb1 : (bits BinOp.and IntKind.i64 n' 1 == 1) = false := by rw [and_one64 n' h1 h2]; simpa using hodd
        go_wp2_with fail
        refine (twinMul_c _ _ _ _ _).mono ?_; rintro e w2 ⟨rfl, hb2⟩
        have hm3 := hm0.below hb2
        clear hm0 a0 a1 o0 o1 r0 r1 fa0 fa1 fo0 fo1 fr0 fr1 hsz hbel hb2
        have hm4 := hm3
        obtain ⟨a0, a1, o0, o1, r0, r1, fa0, fa1, fo0, fo1, fr0, fr1, hsz, hbel⟩ := hm4
        go_wp2
        clear a0 a1 o0 o1 r0 r1 fa0 fa1 fo0 fo1 fr0 fr1 hsz hbel
        have hz' := hz.out
        rw [hz']
        go_roundw
        case rel => exact ⟨n' / 2, z.mul z, o, _, _, rfl, zAt_even h (by omega), hm3.setA, zi_fz _⟩
        case measure => simp [intOf]; omega
    · have ho := Lib.hid (zAt_end h (by omega))
      go_wp2
      have k := set2_cell (x := .int .i64 (fz o.re)) (y := .int .i64 (fz o.im)) r0 r1
      have ho := ho.out
      refine bodyPost_ret (v := twR o) (by simp [results, Tryz.results184, go_sem, k.1, k.2]) rfl ⟨by rw [ho], ?_⟩
      exact set2_below hbel (by omega)
end Go.Proofs.YtjjmelhhalomaaaGreatDoor
namespace Go.Proofs.YtjjmelhhalomaaaGreatDoor
open Go.RowKit
end Go.Proofs.YtjjmelhhalomaaaGreatDoor
namespace Go.Proofs.YtjjmelhhalomaaaGreatDoor
theorem recip_prod (x1 x2 x3 e1 e2 e3 a b c d : F) (h1 : x1+x2+x3 = e1) (h2 : x1*x2+x1*x3+x2*x3 = e2) (h3 : x1*x2*x3 = e3) :
    ((Z.mk (a*x1-c) (b*x1-d)).mul (Z.mk (a*x2-c) (b*x2-d))).mul (Z.mk (a*x3-c) (b*x3-d)) =
      ⟨(a*(a*a-b*b) - b*(2*a*b))*e3 - ((a*a-b*b)*c-2*a*b*d)*e2 + (a*(c*c-d*d) - b*(2*c*d))*e1 - (c*(c*c-d*d)-d*(2*c*d)),
       (a*(2*a*b)+b*(a*a-b*b))*e3 - ((a*a-b*b)*d+2*a*b*c)*e2 + (a*(2*c*d)+b*(c*c-d*d))*e1 - (c*(2*c*d)+d*(c*c-d*d))⟩ := by
  subst h1 h2 h3
  apply Z.ext'
  · simp only [Z.mul]; grobner
  · simp only [Z.mul]; grobner
/-- The value of a line with slope l, over the field, at the turned place of (x, y); of one with slope s, among the turned ones, at (t, u). -/
def lv (l v x y : F) : Z := ⟨l * x - v, y⟩
def mv (s n t u : F) : Z := ⟨u, s * t - n⟩
theorem recip (x1 x2 x3 s n t1 t2 t3 l v : F) (h1 : x1+x2+x3 = s*s) (h2 : x1*x2+x1*x3+x2*x3 = 1-2*s*n) (h3 : x1*x2*x3 = n*n)
    (k1 : t1+t2+t3 = l*l) (k2 : t1*t2+t1*t3+t2*t3 = 1-2*l*v) (k3 : t1*t2*t3 = v*v) :
    ((lv l v x1 (s*x1+n)).mul (lv l v x2 (s*x2+n))).mul (lv l v x3 (-(s*x3+n))).conj = ((mv s n t1 (l*t1+v)).mul (mv s n t2 (l*t2+v))).mul (mv s n t3 (-(l*t3+v))).conj := by
  have a := recip_prod x1 x2 x3 _ _ _ l s v (-n) h1 h2 h3
  have b := recip_prod t1 t2 t3 _ _ _ l s (-v) n k1 k2 k3
  have ea : ∀ x : F, lv l v x (s*x+n) = Z.mk (l*x-v) (s*x- -n) := fun x => Z.ext' rfl (by simp only [lv]; grobner)
  have ea3 : (lv l v x3 (-(s*x3+n))).conj = Z.mk (l*x3-v) (s*x3- -n) := Z.ext' rfl (by simp only [lv, Z.conj]; grobner)
  have eb : ∀ t : F, mv s n t (l*t+v) = Z.mk (l*t- -v) (s*t-n) := fun t => Z.ext' (by simp only [mv]; grobner) rfl
  have eb3 : (mv s n t3 (-(l*t3+v))).conj = (Z.of (-1)).mul (Z.mk (l*t3- -v) (s*t3-n)) := Z.ext' (by simp only [mv, Z.conj, Z.of, Z.mul]; grobner) (by simp only [mv, Z.conj, Z.of, Z.mul]; grobner)
  rw [ea x1, ea x2, ea3, a, eb, eb, eb3, Z.mul_left_comm, b]
  clear a b ea ea3 eb eb3 h1 h2 h3 k1 k2 k3
  apply Z.ext'
  · simp only [Z.mul, Z.of]; grobner
  · simp only [Z.mul, Z.of]; grobner
/-- What a slope says of two spots and their sum. -/
structure LineOf (a b : Sp) (l v : F) : Prop where
  ya : fi a.y = l * fi a.x + v
  yb : fi b.y = l * fi b.x + v
  yc : fi (sSum a b).y = -(l * fi (sSum a b).x + v)
  far : (sSum a b).far = false
  e1 : fi a.x + fi b.x + fi (sSum a b).x = l * l
  e2 : fi a.x * fi b.x + fi a.x * fi (sSum a b).x + fi b.x * fi (sSum a b).x = 1 - 2 * l * v
  e3 : fi a.x * fi b.x * fi (sSum a b).x = v * v
theorem third_line {a b : Sp} {s : Int} (hs : sSum a b = sThird a b s) (hl : fi s * (fi a.x - fi b.x) = fi a.y - fi b.y)
    (h : fi a.x*fi b.x+fi a.x*(fi s*fi s-(fi a.x+fi b.x))+fi b.x*(fi s*fi s-(fi a.x+fi b.x)) = 1-2*fi s*(fi a.y-fi s*fi a.x) ∧ fi a.x*fi b.x*(fi s*fi s-(fi a.x+fi b.x)) = (fi a.y-fi s*fi a.x)*(fi a.y-fi s*fi a.x)) :
    LineOf a b (fi s) (fi a.y - fi s * fi a.x) := by
  have ex : fi (sThird a b s).x = fi s*fi s-(fi a.x+fi b.x) := by
    show fi (pSub (pMul s s) (a.x + b.x)) = _
    rw [fi_pSub, fi_pMul, fi_add]
  have ey : fi (sThird a b s).y = -(fi s * (fi s*fi s-(fi a.x+fi b.x)) + (fi a.y - fi s * fi a.x)) := by
    show fi (pSub (pMul s (pSub a.x (sThird a b s).x)) a.y) = _
    rw [fi_pSub, fi_pMul, fi_pSub, ex]; grobner
  refine ⟨by grobner, by grobner, by rw [hs, ex, ey], by rw [hs]; rfl, by rw [hs, ex]; grobner, by rw [hs, ex]; exact h.1, by rw [hs, ex]; exact h.2⟩
theorem slope_line {a b : Sp} {s : Int} (ha : Ok a) (hb : Ok b) (fa : a.far = false) (fb : b.far = false) (hs : sSlope a b = some s) :
    LineOf a b (fi s) (fi a.y - fi s * fi a.x) := by
  have es : sSum a b = sThird a b s := by unfold sSum; rw [fa, fb, hs]; rfl
  have oa := ha.on fa; have ob := hb.on fb
  unfold sSlope at hs
  by_cases hx : a.x ≠ b.x
  · rw [if_pos hx] at hs
    have hne : fi a.x - fi b.x ≠ 0 := fun h => hx (fi_inj ⟨ha.x0, ha.x1⟩ ⟨hb.x0, hb.x1⟩ (by grobner))
    have e := Option.some.inj hs
    have hl : fi s * (fi a.x - fi b.x) = fi a.y - fi b.y := by
      rw [← e, fi_pMul, fi_pInv, fi_pSub, fi_pSub]
      have := inv_mul hne
      rw [show (fi a.y - fi b.y) * inv (fi a.x - fi b.x) * (fi a.x - fi b.x) = (fi a.y - fi b.y) * (inv (fi a.x - fi b.x) * (fi a.x - fi b.x)) by grobner, this]; grobner
    exact third_line es hl (chord_rel hne oa ob hl)
  · rw [if_neg hx] at hs
    by_cases hy : a.y ≠ b.y ∨ a.y = 0
    · rw [if_pos hy] at hs; cases hs
    · rw [if_neg hy] at hs
      have e := Option.some.inj hs
      have hy' : a.y = b.y ∧ a.y ≠ 0 := by omega
      have hne : 2 * fi a.y ≠ 0 := mul_ne two_ne (fun h => hy'.2 ((fi_zero_iff ⟨ha.y0, ha.y1⟩).mp h))
      have hl : fi s * (2 * fi a.y) = 3 * (fi a.x * fi a.x) + 1 := by
        rw [← e, fi_pMul, fi_pInv, fi_add, fi_pMul, fi_pMul, fi_mul]
        have h2 : fi 2 = 2 := rfl
        have h3 : fi 3 = 3 := rfl
        rw [h2, h3, fi_one]
        have := inv_mul hne
        rw [show (3 * (fi a.x * fi a.x) + 1) * inv (2 * fi a.y) * (2 * fi a.y) = (3 * (fi a.x * fi a.x) + 1) * (inv (2 * fi a.y) * (2 * fi a.y)) by grobner, this]; grobner
      have : b = a := Sp.ext' (Decidable.of_not_not hx).symm hy'.1.symm (fb.trans fa.symm)
      subst this
      exact third_line es (by grobner) (tangent_rel oa hl)
theorem slope_none {a b : Sp} (fa : a.far = false) (fb : b.far = false) (h : (sSum a b).far = false) : ∃ s, sSlope a b = some s := by
  cases e : sSlope a b with
  | none => exfalso; unfold sSum at h; rw [fa, fb, e] at h; cases h
  | some s => exact ⟨s, rfl⟩
/-- A line's value, as the program reckons it. -/
def zLine (a b t : Sp) : Z := match sSlope a b with
  | none => .one
  | some s => ⟨fi s * (fi t.x + fi a.x) - fi a.y, fi t.y⟩
theorem zLine_lv {a b t : Sp} {s : Int} (h : sSlope a b = some s) : zLine a b t = lv (fi s) (fi a.y - fi s * fi a.x) (fi t.x) (fi t.y) := by
  unfold zLine; rw [h]; exact Z.ext' (by simp only [lv]; grobner) rfl
/-- What one step of Miller's adds, of b, of c and of their sum. -/
theorem step_recip {a b T U : Sp} {s n : F} (hT : Ok T) (hU : Ok U) (fT : T.far = false) (fU : U.far = false) (fS : (sSum T U).far = false) (hl : LineOf a b s n) :
    ((zLine T U a).mul (zLine T U b)).mul (zLine T U (sSum a b)).conj =
      ((mv s n (fi T.x) (fi T.y)).mul (mv s n (fi U.x) (fi U.y))).mul (mv s n (fi (sSum T U).x) (fi (sSum T U).y)).conj := by
  obtain ⟨l, hs⟩ := slope_none fT fU fS
  have k := slope_line hT hU fT fU hs
  rw [zLine_lv hs, zLine_lv hs, zLine_lv hs, hl.ya, hl.yb, hl.yc, k.yb, k.yc]
  have := recip _ _ _ s n _ _ _ (fi l) (fi T.y - fi l * fi T.x) hl.e1 hl.e2 hl.e3 k.e1 k.e2 k.e3
  rw [this]
  have e : fi l * fi T.x + (fi T.y - fi l * fi T.x) = fi T.y := by grobner
  rw [e]
end Go.Proofs.YtjjmelhhalomaaaGreatDoor
namespace Go.Proofs.YtjjmelhhalomaaaGreatDoor
/-- One step: false: the number is squared, times the line that touches, the spot doubled; true: times the line through the spot and a, which is added. -/
def mstep (a b : Sp) (st : Z × Sp) (o : Bool) : Z × Sp :=
  if o then (st.1.mul (zLine st.2 a b), sSum st.2 a) else ((st.1.mul st.1).mul (zLine st.2 st.2 b), sSum st.2 st.2)
def mrun (a b : Sp) (ops : List Bool) : Z × Sp := ops.foldl (mstep a b) (.one, a)
def cstep (k : Nat) (o : Bool) : Nat := if o then k + 1 else k + k
/-- All that is met on the way is below 1013. -/
def cgood : Nat → List Bool → Bool
  | k, [] => Nat.beq k 1012
  | k, o :: l => Nat.ble (cstep k o) 1012 && cgood (cstep k o) l
theorem fi_y_ne {s : Sp} (h : Ok s) (hf : s.far = false) (h2 : (sSum s s).far = false) : fi s.y ≠ 0 := fun e => by
  have hy := (fi_zero_iff ⟨h.y0, h.y1⟩).mp e
  have : sSlope s s = none := by unfold sSlope; rw [if_neg (by simp), if_pos (Or.inr hy)]
  unfold sSum at h2; rw [hf, this] at h2; cases h2
theorem sq_far_false {a : Int} : (sq a).far = false ↔ a % 4052 ≠ 0 := by
  have := @sq_far a
  cases h : (sq a).far
  · rw [h] at this; simp at this; simp [this]
  · rw [h] at this; simp at this; simp [this]
theorem of_swap (r : F) (a b : Z) : (a.mul (.of r)).mul b = (Z.of r).mul (a.mul b) := by rw [Z.mul_comm a, Z.mul_assoc]
theorem norm_mv {s n t u : F} (h : u ≠ 0) : (mv s n t u).norm ≠ 0 := fun e => h (Z.norm_zero e).1
section
variable (i : Int) (b c : Sp) (s n : F)
/-- The value at so many times the first spot. -/
def mk' (k : Nat) : Z := mv s n (fi (sq (4 * i * k)).x) (fi (sq (4 * i * k)).y)
theorem mul_i_ne {i k : Int} (hi : i % 1013 ≠ 0) (h1 : 1 ≤ k) (h2 : k ≤ 1012) : (4 * i * k) % 4052 ≠ 0 := by
  intro h
  have h4 : (4 * (i * k)) % (4 * 1013) = 0 := by rw [← Int.mul_assoc]; exact h
  rw [Int.mul_emod_mul_of_pos _ _ (by decide)] at h4
  have h3 : (i * k) % 1013 = 0 := by omega
  have d : 1013 ∣ i.natAbs * k.natAbs := by rw [← Int.natAbs_mul]; exact Int.natAbs_dvd_natAbs.mpr (Int.dvd_of_emod_eq_zero h3)
  have p : Nat.Coprime 1013 k.natAbs := by
    have g : ∀ m : Nat, m < 1012 → Nat.gcd 1013 (m + 1) = 1 := by decide +kernel
    have e : k.natAbs = (k.natAbs - 1) + 1 := by omega
    unfold Nat.Coprime; rw [e]; exact g _ (by omega)
  have := Nat.Coprime.dvd_of_dvd_mul_right p d
  exact hi (by omega)
theorem far_k {i : Int} {k : Nat} (hi : i % 1013 ≠ 0) (h1 : 1 ≤ k) (h2 : k ≤ 1012) : (sq (4 * i * k)).far = false :=
  sq_far_false.mpr (mul_i_ne hi (by omega) (by omega))
theorem y_k {i : Int} {k : Nat} (hi : i % 1013 ≠ 0) (h1 : 1 ≤ k) (h2 : k ≤ 1012) : fi (sq (4 * i * k)).y ≠ 0 := by
  refine fi_y_ne (sq_ok _) (far_k hi h1 h2) ?_
  rw [sq_add]
  refine sq_far_false.mpr fun h => ?_
  have h3 := mul_i_ne (i := i) (k := k) hi (by omega) (by omega)
  rw [Int.mul_assoc] at h h3
  generalize i * (k : Int) = m at *
  omega
def Good (k : Nat) (fb fc fd : Z) : Prop := ∃ r : F, r ≠ 0 ∧ (fb.mul fc).mul fd.conj = (Z.of r).mul (((mk' i s n 1).pow k).mul (mk' i s n k).conj)
theorem good_start (hi : i % 1013 ≠ 0) : Good i s n 1 .one .one .one := by
  refine ⟨inv (mk' i s n 1).norm, fun h => ?_, ?_⟩
  · have := mul_inv (norm_mv (s := s) (n := n) (t := fi (sq (4 * i * (1 : Nat))).x) (y_k (k := 1) hi (by decide) (by decide)))
    have e : (mk' i s n 1).norm * inv (mk' i s n 1).norm = 1 := this
    rw [h] at e; exact one_ne (by rw [← e]; grobner)
  · have h1 : ((mk' i s n 1).pow 1).mul (mk' i s n 1).conj = .of (mk' i s n 1).norm := by
      rw [← Z.mul_conj, Z.pow_one]
    have e : inv (mk' i s n 1).norm * (mk' i s n 1).norm = 1 := inv_mul (norm_mv (y_k (k := 1) hi (by decide) (by decide)))
    rw [h1, Z.of_mul, e]
    exact Z.ext' (by decide) (by decide)
instance : Std.Associative Z.mul := ⟨Z.mul_assoc⟩
instance : Std.Commutative Z.mul := ⟨Z.mul_comm⟩
theorem dbl_alg (a b c x y z : Z) : (((a.mul a).mul x).mul ((b.mul b).mul y)).mul ((c.mul c).mul z) = (((a.mul b).mul c).mul ((a.mul b).mul c)).mul ((x.mul y).mul z) := by ac_rfl
theorem add_alg (a b c x y z : Z) : ((a.mul x).mul (b.mul y)).mul (c.mul z) = ((a.mul b).mul c).mul ((x.mul y).mul z) := by ac_rfl
theorem dbl_alg2 (r p t u v : Z) : ((r.mul (p.mul u)).mul (r.mul (p.mul u))).mul ((t.mul t).mul v) = ((r.mul r).mul ((t.mul u).mul (t.mul u))).mul ((p.mul p).mul v) := by ac_rfl
theorem add_alg2 (r p m t u v : Z) : (r.mul (p.mul u)).mul ((t.mul m).mul v) = (r.mul (t.mul u)).mul ((p.mul m).mul v) := by ac_rfl
theorem good_step {i : Int} {b c : Sp} {s n : F} (hi : i % 1013 ≠ 0) (hl : LineOf b c s n) {k : Nat} {o : Bool} (h1 : 1 ≤ k) (hk : k ≤ 1012) (h2 : cstep k o ≤ 1012) {fb fc fd : Z} (h : Good i s n k fb fc fd) :
    Good i s n (cstep k o) (mstep (sq (4 * i)) b (fb, sq (4 * i * k)) o).1 (mstep (sq (4 * i)) c (fc, sq (4 * i * k)) o).1 (mstep (sq (4 * i)) (sSum b c) (fd, sq (4 * i * k)) o).1 := by
  obtain ⟨r, hr, h⟩ := h
  have hn : (mk' i s n k).norm ≠ 0 := norm_mv (y_k hi h1 hk)
  have hc : (mk' i s n k).mul (mk' i s n k).conj = .of (mk' i s n k).norm := Z.mul_conj _
  cases o
  · simp only [cstep, Bool.false_eq_true, if_false] at h2
    have e : sSum (sq (4 * i * k)) (sq (4 * i * k)) = sq (4 * i * ((k + k : Nat) : Int)) := by rw [sq_add]; congr 1; rw [Int.natCast_add, Int.mul_add]
    have st := step_recip (sq_ok _) (sq_ok _) (far_k hi h1 hk) (far_k hi h1 hk) (by rw [e]; exact far_k hi (by omega) h2) hl
    rw [e] at st
    refine ⟨r * r * ((mk' i s n k).norm * (mk' i s n k).norm), mul_ne (mul_ne hr hr) (mul_ne hn hn), ?_⟩
    simp only [mstep, cstep, Bool.false_eq_true, if_false]
    rw [Z.conj_mul, Z.conj_mul, dbl_alg, h, st]
    show (((Z.of r).mul (((mk' i s n 1).pow k).mul (mk' i s n k).conj)).mul ((Z.of r).mul (((mk' i s n 1).pow k).mul (mk' i s n k).conj))).mul (((mk' i s n k).mul (mk' i s n k)).mul (mk' i s n (k + k)).conj) = _
    rw [dbl_alg2, hc, Z.of_mul, Z.of_mul, Z.of_mul, Z.pow_add]
  · simp only [cstep, if_true] at h2
    have e : sSum (sq (4 * i * k)) (sq (4 * i)) = sq (4 * i * ((k + 1 : Nat) : Int)) := by rw [sq_add]; congr 1; rw [Int.natCast_add, Int.mul_add]; simp
    have e1 : sq (4 * i) = sq (4 * i * (1 : Nat)) := by congr 1; simp
    have st := step_recip (sq_ok _) (sq_ok (4 * i)) (far_k hi h1 hk) (by rw [e1]; exact far_k hi (by decide) (by decide)) (by rw [e]; exact far_k hi (by omega) h2) hl
    rw [e] at st
    refine ⟨r * (mk' i s n k).norm, mul_ne hr hn, ?_⟩
    simp only [mstep, cstep, if_true]
    rw [Z.conj_mul, add_alg, h, st]
    have em : mv s n (fi (sq (4 * i)).x) (fi (sq (4 * i)).y) = mk' i s n 1 := by unfold mk'; rw [← e1]
    rw [em]
    show ((Z.of r).mul (((mk' i s n 1).pow k).mul (mk' i s n k).conj)).mul (((mk' i s n k).mul (mk' i s n 1)).mul (mk' i s n (k + 1)).conj) = _
    rw [add_alg2, hc, Z.of_mul, ← Z.pow_succ]
theorem cstep_ge {k : Nat} {o : Bool} (h : 1 ≤ k) : 1 ≤ cstep k o := by cases o <;> simp only [cstep] <;> simp <;> omega
theorem mstep_sp {i : Int} {b : Sp} {f : Z} {k : Nat} {o : Bool} : (mstep (sq (4 * i)) b (f, sq (4 * i * k)) o).2 = sq (4 * i * (cstep k o : Nat)) := by
  cases o
  · simp only [mstep, cstep, Bool.false_eq_true, if_false]; rw [sq_add]; congr 1; rw [Int.natCast_add, Int.mul_add]
  · simp only [mstep, cstep, if_true]; rw [sq_add]; congr 1; rw [Int.natCast_add, Int.mul_add]; simp
theorem good_run {i : Int} {b c : Sp} {s n : F} (hi : i % 1013 ≠ 0) (hl : LineOf b c s n) : ∀ (ops : List Bool) (k : Nat) (fb fc fd : Z), 1 ≤ k → k ≤ 1012 → cgood k ops = true → Good i s n k fb fc fd →
    Good i s n 1012 (ops.foldl (mstep (sq (4 * i)) b) (fb, sq (4 * i * k))).1 (ops.foldl (mstep (sq (4 * i)) c) (fc, sq (4 * i * k))).1 (ops.foldl (mstep (sq (4 * i)) (sSum b c)) (fd, sq (4 * i * k))).1
  | [], k, fb, fc, fd, _, _, hg, h => by
    simp only [cgood, Nat.beq_eq] at hg; subst hg; exact h
  | o :: l, k, fb, fc, fd, h1, hk, hg, h => by
    simp only [cgood, Bool.and_eq_true, Nat.ble_eq] at hg
    have g := good_step hi hl h1 hk hg.1 h
    have r := good_run hi hl l (cstep k o) _ _ _ (cstep_ge h1) hg.1 hg.2 g
    simp only [List.foldl_cons]
    have pe : ∀ (x : Sp) (f : Z), mstep (sq (4 * i)) x (f, sq (4 * i * k)) o = ((mstep (sq (4 * i)) x (f, sq (4 * i * k)) o).1, sq (4 * i * (cstep k o : Nat))) := fun x f => Prod.ext rfl mstep_sp
    rw [pe b, pe c, pe (sSum b c)]
    exact r
def e16200 : Nat := 4050 * 4
theorem ppow_add (a : F) (m : Nat) : ∀ n, a ^ (m + n) = a ^ m * a ^ n
  | 0 => by grobner
  | n+1 => by
    have h1 : a ^ (m + (n + 1)) = a ^ (m + n) * a := by rw [← Nat.add_assoc]; grobner
    have h2 : a ^ (n + 1) = a ^ n * a := by grobner
    rw [h1, h2, ppow_add a m n]; grobner
theorem ppow_mul (a : F) (m : Nat) : ∀ n, a ^ (m * n) = (a ^ m) ^ n
  | 0 => by rw [Nat.mul_zero]; grobner
  | n+1 => by
    have h2 : (a ^ m) ^ (n + 1) = (a ^ m) ^ n * a ^ m := by grobner
    rw [Nat.mul_succ, ppow_add, h2, ppow_mul a m n]
theorem pone_pow : ∀ n : Nat, (1 : F) ^ n = 1
  | 0 => by grobner
  | n+1 => by have : (1 : F) ^ (n+1) = 1 ^ n * 1 := by grobner
              rw [this, pone_pow n]; grobner
theorem pof_e {r : F} (h : r ≠ 0) : (Z.of r).pow e16200 = .one := by
  rw [Z.of_pow, show e16200 = (eInv + 1) * 4 from rfl, ppow_mul, fpow_inv h, pone_pow]; rfl
theorem whole_e {z : Z} (h : z.norm ≠ 0) : (z.pow 1013).pow e16200 = .one := by
  rw [← Z.pow_mul, show 1013 * e16200 = eNorm * (eInv + 1) from rfl, Z.pow_mul, frob_norm, Z.of_pow, fpow_inv h]; rfl
theorem conj_e {z : Z} (h : z.norm ≠ 0) : (z.pow e16200).mul (z.pow e16200).conj = .one := by
  rw [Z.mul_conj, Z.norm_pow, show e16200 = (eInv + 1) * 4 from rfl, ppow_mul, fpow_inv h, pone_pow]; rfl
end
end Go.Proofs.YtjjmelhhalomaaaGreatDoor
namespace Go.Proofs.YtjjmelhhalomaaaGreatDoor
attribute [local semireducible] Z.pow
theorem norm_one : Z.one.norm = 1 := by decide
theorem norm_line {a b t : Sp} (h : fi t.y ≠ 0) : (zLine a b t).norm ≠ 0 := by
  unfold zLine
  split
  · rw [norm_one]; decide
  · exact fun e => h (Z.norm_zero e).2
theorem norm_mstep {a b : Sp} (h : fi b.y ≠ 0) {st : Z × Sp} (hs : st.1.norm ≠ 0) (o : Bool) : (mstep a b st o).1.norm ≠ 0 := by
  cases o
  · simp only [mstep, Bool.false_eq_true, if_false]; rw [Z.norm_mul, Z.norm_mul]; exact mul_ne (mul_ne hs hs) (norm_line h)
  · simp only [mstep, if_true]; rw [Z.norm_mul]; exact mul_ne hs (norm_line h)
theorem norm_run {a b : Sp} (h : fi b.y ≠ 0) : ∀ (ops : List Bool) (st : Z × Sp), st.1.norm ≠ 0 → (ops.foldl (mstep a b) st).1.norm ≠ 0
  | [], _, hs => hs
  | o :: l, st, hs => by rw [List.foldl_cons]; exact norm_run h l _ (norm_mstep h hs o)
theorem run_sp {i : Int} {b : Sp} : ∀ (ops : List Bool) (k : Nat) (f : Z), cgood k ops = true → (ops.foldl (mstep (sq (4 * i)) b) (f, sq (4 * i * k))).2 = sq (4 * i * (1012 : Nat))
  | [], k, f, hg => by simp only [cgood, Nat.beq_eq] at hg; subst hg; rfl
  | o :: l, k, f, hg => by
    simp only [cgood, Bool.and_eq_true] at hg
    rw [List.foldl_cons, show mstep (sq (4 * i)) b (f, sq (4 * i * k)) o = ((mstep (sq (4 * i)) b (f, sq (4 * i * k)) o).1, sq (4 * i * (cstep k o : Nat))) from Prod.ext rfl mstep_sp]
    exact run_sp l _ _ hg.2
theorem sq_1012 (i : Int) : sq (4 * i * (1012 : Nat)) = sTurned (sq (4 * i)) := by
  rw [sq_neg]; exact sq_eq_iff.mpr (by omega)
theorem line_last {i : Int} (hi : i % 1013 ≠ 0) (b : Sp) : zLine (sq (4 * i * (1012 : Nat))) (sq (4 * i)) b = .one := by
  unfold zLine
  have : sSlope (sq (4 * i * (1012 : Nat))) (sq (4 * i)) = none := by
    cases e : sSlope (sq (4 * i * (1012 : Nat))) (sq (4 * i)) with
    | none => rfl
    | some s =>
      exfalso
      have e1 : sq (4 * i) = sq (4 * i * (1 : Nat)) := by congr 1; simp
      have f1 : (sq (4 * i)).far = false := by rw [e1]; exact far_k hi (by decide) (by decide)
      have f2 := far_k (i := i) (k := 1012) hi (by decide) (by decide)
      have h := (slope_line (sq_ok _) (sq_ok _) f2 f1 e).far
      rw [sq_add] at h
      have : (sq (4 * i * (1012 : Nat) + 4 * i)).far = true := sq_far.mpr (by omega)
      rw [this] at h; cases h
  rw [this]
/-- Miller's number along a chain, before the last power; 'ops' ends with the last adding. -/
def zM (ops : List Bool) (a b : Sp) : Z := (mrun a b (ops ++ [true])).1
theorem zM_eq {i : Int} (hi : i % 1013 ≠ 0) {ops : List Bool} (hg : cgood 1 ops = true) (b : Sp) : zM ops (sq (4 * i)) b = (mrun (sq (4 * i)) b ops).1 := by
  unfold zM mrun
  rw [List.foldl_append]
  have e1 : sq (4 * i) = sq (4 * i * (1 : Nat)) := by congr 1; simp
  have e : (ops.foldl (mstep (sq (4 * i)) b) (.one, sq (4 * i))).2 = sq (4 * i * (1012 : Nat)) := by
    conv => lhs; rw [show (Z.one, sq (4 * i)) = (Z.one, sq (4 * i * (1 : Nat))) by rw [← e1]]
    exact run_sp ops 1 _ hg
  simp only [List.foldl_cons, List.foldl_nil, mstep, if_true]
  rw [e, line_last hi, Z.mul_one]
def zP (ops : List Bool) (a b : Sp) : Z := (zM ops a b).pow e16200
theorem zP_sum {i : Int} (hi : i % 1013 ≠ 0) {ops : List Bool} (hg : cgood 1 ops = true) {b c : Sp} (hb : Ok b) (hc : Ok c) (fb : b.far = false) (fc : c.far = false) (fs : (sSum b c).far = false) (yd : fi (sSum b c).y ≠ 0) :
    (zP ops (sq (4 * i)) b).mul (zP ops (sq (4 * i)) c) = zP ops (sq (4 * i)) (sSum b c) := by
  obtain ⟨l, hs⟩ := slope_none fb fc fs
  have hl := slope_line hb hc fb fc hs
  have e1 : sq (4 * i) = sq (4 * i * (1 : Nat)) := by congr 1; simp
  have g := good_run hi hl ops 1 _ _ _ (by decide) (by decide) hg (good_start i _ _ hi)
  have em : ∀ x, (ops.foldl (mstep (sq (4 * i)) x) (.one, sq (4 * i * (1 : Nat)))).1 = zM ops (sq (4 * i)) x := fun x => by
    rw [zM_eq hi hg, mrun]; conv => rhs; rw [show (Z.one, sq (4 * i)) = (Z.one, sq (4 * i * (1 : Nat))) by rw [← e1]]
  rw [em, em, em] at g
  obtain ⟨r, hr, g⟩ := g
  have y1 := y_k (i := i) (k := 1) hi (by decide) (by decide)
  have ec : (mk' i (fi l) (fi b.y - fi l * fi b.x) 1012).conj = (Z.of (-1)).mul (mk' i (fi l) (fi b.y - fi l * fi b.x) 1) := by
    have ex : fi (sq (4 * i * (1012 : Nat))).x = fi (sq (4 * i * (1 : Nat))).x := by rw [sq_1012, ← e1]; rfl
    have ey : fi (sq (4 * i * (1012 : Nat))).y = - fi (sq (4 * i * (1 : Nat))).y := by
      rw [sq_1012, ← e1]; show fi ((-(sq (4 * i)).y) % 4051) = _; rw [fi_mod, fi_neg]
    unfold mk' mv
    rw [ex, ey]
    apply Z.ext'
    · simp only [Z.conj, Z.of, Z.mul]; grobner
    · simp only [Z.conj, Z.of, Z.mul]; grobner
  rw [ec] at g
  generalize hM : mk' i (fi l) (fi b.y - fi l * fi b.x) 1 = M at *
  have hMn : M.norm ≠ 0 := by rw [← hM]; exact norm_mv y1
  have g2 : ((zM ops (sq (4 * i)) b).mul (zM ops (sq (4 * i)) c)).mul (zM ops (sq (4 * i)) (sSum b c)).conj = (Z.of (-r)).mul (M.pow 1013) := by
    rw [g, show Z.of (-r) = (Z.of r).mul (.of (-1)) by rw [Z.of_mul]; congr 1; grobner, show M.pow 1013 = (M.pow 1012).mul M from rfl]
    ac_rfl
  have hr' : -r ≠ 0 := fun h => hr (by grobner)
  have k := congrArg (fun z => Z.pow z e16200) g2
  simp only [Z.mul_pow] at k
  rw [pof_e hr', whole_e hMn, Z.one_mul, ← Z.conj_pow] at k
  have nd : (zM ops (sq (4 * i)) (sSum b c)).norm ≠ 0 := by
    unfold zM mrun; exact norm_run yd _ _ (by rw [norm_one]; decide)
  have w := conj_e nd
  show ((zM ops (sq (4 * i)) b).pow e16200).mul ((zM ops (sq (4 * i)) c).pow e16200) = (zM ops (sq (4 * i)) (sSum b c)).pow e16200
  have k2 := congrArg (fun z => z.mul ((zM ops (sq (4 * i)) (sSum b c)).pow e16200)) k
  rw [Z.one_mul, Z.mul_assoc, Z.mul_comm (((zM ops (sq (4 * i)) (sSum b c)).pow e16200).conj), w, Z.mul_one] at k2
  exact k2
theorem pfour_far {j : Int} (h : j % 1013 ≠ 0) : (sq (4 * j)).far = false := sq_far_false.mpr (by omega)
theorem four_y {j : Int} (h : j % 1013 ≠ 0) : fi (sq (4 * j)).y ≠ 0 := by
  have := y_k (i := j) (k := 1) h (by decide) (by decide)
  rw [show (4 * j * ((1 : Nat) : Int)) = 4 * j by simp] at this; exact this
/-- Of j times the base it is the power j. -/
theorem zP_lin {i : Int} (hi : i % 1013 ≠ 0) {ops : List Bool} (hg : cgood 1 ops = true) : ∀ j : Nat, 1 ≤ j → j ≤ 1012 → zP ops (sq (4 * i)) (sq (4 * j)) = (zP ops (sq (4 * i)) (sq 4)).pow j
  | 0, h, _ => by omega
  | 1, _, _ => (Z.one_mul _).symm
  | j+2, _, h => by
    have ih := zP_lin hi hg (j+1) (by omega) (by omega)
    show _ = ((zP ops (sq (4 * i)) (sq 4)).pow (j+1)).mul (zP ops (sq (4 * i)) (sq 4))
    rw [← ih]
    have e : sSum (sq (4 * ((j+1 : Nat) : Int))) (sq 4) = sq (4 * ((j + 2 : Nat) : Int)) := by rw [sq_add]; exact sq_eq_iff.mpr (by omega)
    rw [← e]
    exact (zP_sum hi hg (sq_ok _) (sq_ok 4) (pfour_far (by omega)) (show (sq 4).far = false from pfour_far (j := 1) (by decide)) (by rw [e]; exact pfour_far (by omega)) (by rw [e]; exact four_y (by omega))).symm
theorem zM_norm {i : Int} {ops : List Bool} {j : Int} (hj : j % 1013 ≠ 0) : (zM ops (sq i) (sq (4 * j))).norm ≠ 0 := by
  unfold zM mrun; exact norm_run (four_y hj) _ _ (by rw [norm_one]; decide)
theorem zP_whole {i : Int} {ops : List Bool} {j : Int} (hj : j % 1013 ≠ 0) : (zP ops (sq i) (sq (4 * j))).pow 1013 = .one := by
  have := whole_e (zM_norm (i := i) (ops := ops) hj)
  unfold zP; rw [← Z.pow_mul, Nat.mul_comm, Z.pow_mul]; exact this
theorem zP_norm {i : Int} {ops : List Bool} {j : Int} (hj : j % 1013 ≠ 0) : (zP ops (sq i) (sq (4 * j))).norm = 1 := by
  unfold zP; rw [Z.norm_pow, show e16200 = (eInv + 1) * 4 from rfl, ppow_mul, fpow_inv (zM_norm hj), pone_pow]
def goOps : List Bool := [false, true, false, true, false, true, false, true, false, true, false, false, true, false, false]
theorem goOps_good : cgood 1 goOps = true := by decide
end Go.Proofs.YtjjmelhhalomaaaGreatDoor
namespace Go.Proofs.YtjjmelhhalomaaaGreatDoor
attribute [local semireducible] Z.pow
def nlD (k : Nat) : Nat × Nat :=
  let x := cx k; let y := cy k
  (((3 * x * x + 1) * (1189 + x) + 2 * y * (4051 - y)) % 4051, (2 * y * 3667) % 4051)
def nlA (k m : Nat) : Nat × Nat :=
  let x := cx k; let y := cy k; let d := x + (4051 - cx m)
  (((y + (4051 - cy m)) * (1189 + x) + (4051 - y) * d) % 4051, (d * 3667) % 4051)
def qm2 (p q : Nat × Nat) : Nat × Nat := qm p.1 p.2 q.1 q.2
def nstep (a : Nat) (st : (Nat × Nat) × Nat) (o : Bool) : (Nat × Nat) × Nat :=
  match o with
  | true => (qm2 st.1 (nlA st.2 a), (st.2 + a) % 4052)
  | false => (qm2 (qm2 st.1 st.1) (nlD st.2), (st.2 + st.2) % 4052)
def nrun (a : Nat) (ops : List Bool) : (Nat × Nat) × Nat := ops.foldl (nstep a) ((1, 0), a)
def fourth (p : Nat × Nat) : Nat × Nat := qm2 (qm2 p p) (qm2 p p)
def eqP (p q : Nat × Nat) : Bool := Nat.beq p.1 q.1 && Nat.beq p.2 q.2
def pairAt (ops : List Bool) (a : Nat) (z : Nat × Nat) : Bool :=
  let f := (nrun a ops).1
  eqP (fourth (f.1, (4051 - f.2) % 4051)) (qm2 (fourth f) z)
def chkP (ops : List Bool) : Nat → Nat → Nat × Nat → Bool
  | 0, _, _ => true
  | n+1, i, z => pairAt ops (4 * i) z && chkP ops n (i + 1) (qm2 z (2824, 4013))
theorem chkP_go : chkP goOps 1012 1 (2824, 4013) = true := by decide +kernel
theorem cT {k : Nat} (h1 : 1 ≤ k) (h2 : k < 4052) : fi (sp k).x = fi (cx k : Int) ∧ fi (sp k).y = fi (cy k : Int) ∧ (sp k).far = false ∧ cx k < 4051 ∧ cy k < 4051 := by
  have e := sp_table h1 (by omega)
  have o := sp_ok k
  rw [e] at o ⊢
  have a := o.x1; have b := o.y1
  exact ⟨rfl, rfl, rfl, by simp only [cSp] at a; omega, by simp only [cSp] at b; omega⟩
theorem base_xy : fi (sq 4).x = 1189 ∧ fi (sq 4).y = 3667 := by
  have e : sq 4 = cSp 4 := (sq_nat 4).trans (sp_table (by decide) (by decide))
  rw [e]; exact ⟨by decide +kernel, by decide +kernel⟩
theorem sub_fi {a b : Nat} (h : b ≤ 4051) : fi ((a + (4051 - b) : Nat) : Int) = fi (a : Int) - fi (b : Int) := by
  rw [← fi_sub]; exact fi_eq.mpr (by omega)
theorem neg_fi {b : Nat} (h : b ≤ 4051) : fi ((4051 - b : Nat) : Int) = - fi (b : Int) := by
  rw [← fi_neg]; exact fi_eq.mpr (by omega)
theorem mod_fi (a : Nat) : fi ((a % 4051 : Nat) : Int) = fi (a : Int) := fi_eq.mpr (by omega)
theorem nlA_ok {k m : Nat} (k1 : 1 ≤ k) (k2 : k < 4052) (m1 : 1 ≤ m) (m2 : m < 4052) (hx : (sp k).x ≠ (sp m).x) :
    ∃ r : F, r ≠ 0 ∧ zn (nlA k m) = (Z.of r).mul (zLine (sp k) (sp m) (sq 4)) := by
  obtain ⟨a1, a2, _, a4, a5⟩ := cT k1 k2
  obtain ⟨b1, b2, _, b4, b5⟩ := cT m1 m2
  have ok := sp_ok k; have om := sp_ok m
  have hne : fi (sp k).x - fi (sp m).x ≠ 0 := fun h => hx (fi_inj ⟨ok.x0, ok.x1⟩ ⟨om.x0, om.x1⟩ (by grobner))
  refine ⟨_, hne, ?_⟩
  have hs : sSlope (sp k) (sp m) = some (pMul (pSub (sp k).y (sp m).y) (pInv (pSub (sp k).x (sp m).x))) := by unfold sSlope; rw [if_pos hx]
  have hl : (fi (sp k).x - fi (sp m).x) * fi (pMul (pSub (sp k).y (sp m).y) (pInv (pSub (sp k).x (sp m).x))) = fi (sp k).y - fi (sp m).y := by
    rw [fi_pMul, fi_pInv, fi_pSub, fi_pSub]
    have := inv_mul hne
    rw [show (fi (sp k).x - fi (sp m).x) * ((fi (sp k).y - fi (sp m).y) * inv (fi (sp k).x - fi (sp m).x)) = (fi (sp k).y - fi (sp m).y) * (inv (fi (sp k).x - fi (sp m).x) * (fi (sp k).x - fi (sp m).x)) by grobner, this]; grobner
  unfold zLine
  rw [hs]
  simp only
  generalize fi (pMul (pSub (sp k).y (sp m).y) (pInv (pSub (sp k).x (sp m).x))) = s at *
  rw [base_xy.1, base_xy.2]
  apply Z.ext'
  · show fi (((cy k + (4051 - cy m)) * (1189 + cx k) + (4051 - cy k) * (cx k + (4051 - cx m))) % 4051 : Nat) = (fi (sp k).x - fi (sp m).x) * (s * (1189 + fi (sp k).x) - fi (sp k).y) - 0 * 3667
    rw [mod_fi, Int.natCast_add, Int.natCast_mul, Int.natCast_mul, fi_add, fi_mul, fi_mul, sub_fi (by omega), sub_fi (by omega), neg_fi (by omega), Int.natCast_add, fi_add, ← a1, ← a2, ← b1, ← b2, show fi ((1189 : Nat) : Int) = 1189 from rfl, ← hl]
    clear hl hs hne hx; grobner
  · show fi (((cx k + (4051 - cx m)) * 3667) % 4051 : Nat) = (fi (sp k).x - fi (sp m).x) * 3667 + 0 * _
    rw [mod_fi, Int.natCast_mul, fi_mul, sub_fi (by omega), ← a1, ← b1, show fi ((3667 : Nat) : Int) = 3667 from rfl]
    clear hl hs hne hx; grobner
theorem nlD_ok {k : Nat} (k1 : 1 ≤ k) (k2 : k < 4052) (hy : fi (sp k).y ≠ 0) :
    ∃ r : F, r ≠ 0 ∧ zn (nlD k) = (Z.of r).mul (zLine (sp k) (sp k) (sq 4)) := by
  obtain ⟨a1, a2, _, a4, a5⟩ := cT k1 k2
  have hy0 : ¬ ((sp k).y ≠ (sp k).y ∨ (sp k).y = 0) := fun h => h.elim (fun h => h rfl) (fun h => hy (by rw [h]; rfl))
  have hne : 2 * fi (sp k).y ≠ 0 := mul_ne two_ne hy
  refine ⟨_, hne, ?_⟩
  have hs : sSlope (sp k) (sp k) = some (pMul (pMul 3 (pMul (sp k).x (sp k).x) + 1) (pInv (2 * (sp k).y))) := by unfold sSlope; rw [if_neg (fun h => h rfl), if_neg hy0]
  have hl : 2 * fi (sp k).y * fi (pMul (pMul 3 (pMul (sp k).x (sp k).x) + 1) (pInv (2 * (sp k).y))) = 3 * (fi (sp k).x * fi (sp k).x) + 1 := by
    rw [fi_pMul, fi_pInv, fi_add, fi_pMul, fi_pMul, fi_mul]
    have h2 : fi 2 = 2 := rfl
    have h3 : fi 3 = 3 := rfl
    rw [h2, h3, fi_one]
    have := inv_mul hne
    rw [show 2 * fi (sp k).y * ((3 * (fi (sp k).x * fi (sp k).x) + 1) * inv (2 * fi (sp k).y)) = (3 * (fi (sp k).x * fi (sp k).x) + 1) * (inv (2 * fi (sp k).y) * (2 * fi (sp k).y)) by grobner, this]; grobner
  unfold zLine
  rw [hs]
  simp only
  generalize fi (pMul (pMul 3 (pMul (sp k).x (sp k).x) + 1) (pInv (2 * (sp k).y))) = s at *
  rw [base_xy.1, base_xy.2]
  apply Z.ext'
  · show fi (((3 * cx k * cx k + 1) * (1189 + cx k) + 2 * cy k * (4051 - cy k)) % 4051 : Nat) = (2 * fi (sp k).y) * (s * (1189 + fi (sp k).x) - fi (sp k).y) - 0 * 3667
    rw [mod_fi, Int.natCast_add, Int.natCast_mul, Int.natCast_mul, Int.natCast_mul, fi_add, fi_mul, fi_mul, fi_mul, neg_fi (by omega), Int.natCast_add, Int.natCast_add, Int.natCast_mul, Int.natCast_mul, fi_add, fi_add, fi_mul, fi_mul, ← a1, ← a2, show fi ((1189 : Nat) : Int) = 1189 from rfl, show fi ((1 : Nat) : Int) = 1 from rfl, show fi ((2 : Nat) : Int) = 2 from rfl, show fi ((3 : Nat) : Int) = 3 from rfl]
    rw [show 3 * fi (sp k).x * fi (sp k).x + 1 = 3 * (fi (sp k).x * fi (sp k).x) + 1 by grobner, ← hl]
    clear hl hs hne hy hy0; grobner
  · show fi ((2 * cy k * 3667) % 4051 : Nat) = (2 * fi (sp k).y) * 3667 + 0 * _
    rw [mod_fi, Int.natCast_mul, Int.natCast_mul, fi_mul, fi_mul, ← a2, show fi ((3667 : Nat) : Int) = 3667 from rfl, show fi ((2 : Nat) : Int) = 2 from rfl]
    clear hl hs hne hy hy0; grobner
theorem xne {a b : Sp} (fa : a.far = false) (fb : b.far = false) (h : a ≠ b) (fs : (sSum a b).far = false) : a.x ≠ b.x := fun e => by
  obtain ⟨s, hs⟩ := slope_none fa fb fs
  unfold sSlope at hs
  rw [if_neg (fun k => k e)] at hs
  by_cases hy : a.y ≠ b.y ∨ a.y = 0
  · rw [if_pos hy] at hs; cases hs
  · exact h (Sp.ext' e (by omega) (fa.trans fb.symm))
/-- An adding comes at no sooner than twice. -/
def agood : Nat → List Bool → Bool
  | _, [] => true
  | k, o :: l => (!o || Nat.ble 2 k) && agood (cstep k o) l
def NR (i k : Nat) (n : (Nat × Nat) × Nat) (st : Z × Sp) : Prop :=
  n.2 = (4 * i * k) % 4052 ∧ n.1.2 ≤ 4051 ∧ st.2 = sq (4 * (i : Int) * k) ∧ ∃ r : F, r ≠ 0 ∧ zn n.1 = (Z.of r).mul st.1
theorem sq_sp (i k : Nat) : sq (4 * (i : Int) * k) = sp ((4 * i * k) % 4052) := by
  rw [sp_mod, ← sq_nat]; congr 1
theorem qm2_ok (p q : Nat × Nat) (h : p.2 ≤ 4051) : (qm2 p q).2 ≤ 4051 ∧ zn (qm2 p q) = (zn p).mul (zn q) := ⟨qm_le _ _ _ _, qm_ok _ _ _ _ h⟩
theorem alg_a (r s : F) (f l : Z) : ((Z.of r).mul f).mul ((Z.of s).mul l) = (Z.of (r * s)).mul (f.mul l) := by
  rw [← Z.of_mul]; ac_rfl
theorem NR_step {i k : Nat} {o : Bool} (hi : (i : Int) % 1013 ≠ 0) (h1 : 1 ≤ k) (hk : k ≤ 1012) (h2 : cstep k o ≤ 1012) (ho : (!o || Nat.ble 2 k) = true) {n : (Nat × Nat) × Nat} {st : Z × Sp}
    (h : NR i k n st) : NR i (cstep k o) (nstep (4 * i % 4052) n o) (mstep (sq (4 * (i : Int))) (sq 4) st o) := by
  obtain ⟨n1, n2, n3, r, hr, n4⟩ := h
  have hf := far_k hi h1 hk
  have hp : 1 ≤ (4 * i * k) % 4052 := by
    have := mul_i_ne (i := i) (k := k) hi (by omega) (by omega)
    have c : ((4 * i * k : Nat) : Int) = 4 * (i : Int) * (k : Int) := by rw [Int.natCast_mul, Int.natCast_mul]; rfl
    rw [← c] at this
    omega
  obtain ⟨⟨p, q⟩, kk⟩ := n
  obtain ⟨f, T⟩ := st
  simp only at n1 n2 n3 n4
  subst n1 n3
  cases o
  · simp only [cstep, Bool.false_eq_true, if_false] at h2 ⊢
    have e : sSum (sq (4 * (i : Int) * k)) (sq (4 * (i : Int) * k)) = sq (4 * (i : Int) * ((k + k : Nat) : Int)) := by rw [sq_add]; congr 1; rw [Int.natCast_add, Int.mul_add]
    have ay := y_k hi h1 hk
    rw [sq_sp] at ay
    obtain ⟨s, hs, nl⟩ := nlD_ok hp (Nat.mod_lt _ (by decide)) ay
    have q1 := qm2_ok (p, q) (p, q) n2
    have q2 := qm2_ok (qm2 (p, q) (p, q)) (nlD ((4 * i * k) % 4052)) q1.1
    refine ⟨?_, q2.1, ?_, r * r * s, mul_ne (mul_ne hr hr) hs, ?_⟩
    · show ((4 * i * k) % 4052 + (4 * i * k) % 4052) % 4052 = (4 * i * (k + k)) % 4052
      rw [Nat.mul_add]; omega
    · simp only [mstep, Bool.false_eq_true, if_false]; exact e
    · show zn (qm2 (qm2 (p, q) (p, q)) (nlD ((4 * i * k) % 4052))) = _
      rw [q2.2, q1.2, nl, n4]
      simp only [mstep, Bool.false_eq_true, if_false]
      rw [sq_sp, alg_a, alg_a]
  · simp only [cstep, if_true] at h2 ⊢
    simp only [Bool.not_true, Bool.false_or, Nat.ble_eq] at ho
    have e1 : sq (4 * (i : Int)) = sq (4 * (i : Int) * (1 : Nat)) := by congr 1; simp
    have e : sSum (sq (4 * (i : Int) * k)) (sq (4 * (i : Int))) = sq (4 * (i : Int) * ((k + 1 : Nat) : Int)) := by rw [sq_add, show 4 * (i : Int) * ((k + 1 : Nat) : Int) = 4 * (i : Int) * k + 4 * (i : Int) by rw [Int.natCast_add, Int.mul_add, Int.natCast_one, Int.mul_one]]
    have fa : (sq (4 * (i : Int))).far = false := by rw [e1]; exact far_k hi (by decide) (by decide)
    have ne : sq (4 * (i : Int) * k) ≠ sq (4 * (i : Int)) := fun h => by
      have := sq_eq_iff.mp h
      have w := mul_i_ne (i := i) (k := (k : Int) - 1) hi (by omega) (by omega)
      rw [Int.mul_sub] at w
      simp only [Int.mul_one] at w
      omega
    have hx := xne hf fa ne (by rw [e]; exact far_k hi (by omega) h2)
    have hm : sq (4 * (i : Int)) = sp ((4 * i) % 4052) := by have := sq_sp i 1; rw [e1, this, Nat.mul_one]
    have hp2 : 1 ≤ (4 * i) % 4052 := by omega
    rw [sq_sp, hm] at hx
    obtain ⟨s, hs, nl⟩ := nlA_ok hp (Nat.mod_lt _ (by decide)) hp2 (Nat.mod_lt _ (by decide)) hx
    have q2 := qm2_ok (p, q) (nlA ((4 * i * k) % 4052) (4 * i % 4052)) n2
    refine ⟨?_, q2.1, ?_, r * s, mul_ne hr hs, ?_⟩
    · show ((4 * i * k) % 4052 + 4 * i % 4052) % 4052 = (4 * i * (k + 1)) % 4052
      rw [Nat.mul_add]; omega
    · simp only [mstep, if_true]; exact e
    · show zn (qm2 (p, q) (nlA ((4 * i * k) % 4052) (4 * i % 4052))) = _
      rw [q2.2, nl, n4]
      simp only [mstep, if_true]
      rw [sq_sp, hm, alg_a]
theorem NR_run {i : Nat} (hi : (i : Int) % 1013 ≠ 0) : ∀ (ops : List Bool) (k : Nat) (n : (Nat × Nat) × Nat) (st : Z × Sp), 1 ≤ k → k ≤ 1012 → cgood k ops = true → agood k ops = true → NR i k n st →
    NR i 1012 (ops.foldl (nstep (4 * i % 4052)) n) (ops.foldl (mstep (sq (4 * (i : Int))) (sq 4)) st)
  | [], k, _, _, _, _, hg, _, h => by simp only [cgood, Nat.beq_eq] at hg; subst hg; exact h
  | o :: l, k, n, st, h1, hk, hg, ha, h => by
    simp only [cgood, Bool.and_eq_true, Nat.ble_eq] at hg
    simp only [agood, Bool.and_eq_true] at ha
    exact NR_run hi l _ _ _ (cstep_ge h1) hg.1 hg.2 ha.2 (NR_step hi h1 hk hg.1 ha.1 h)
theorem cancelZ {a b c : Z} (hc : c.norm ≠ 0) (h : a.mul c = b.mul c) : a = b := by
  have e : (c.mul c.conj).mul (.of (inv c.norm)) = .one := by rw [Z.mul_conj, Z.of_mul, mul_inv hc]; rfl
  have := congrArg (fun z => z.mul (c.conj.mul (.of (inv c.norm)))) h
  have k : ∀ x : Z, (x.mul c).mul (c.conj.mul (.of (inv c.norm))) = x := fun x => by
    rw [show (x.mul c).mul (c.conj.mul (.of (inv c.norm))) = x.mul ((c.mul c.conj).mul (.of (inv c.norm))) by ac_rfl, e, Z.mul_one]
  rw [← k a, ← k b]; exact this
/-- The last power by what is turned. -/
theorem pow_conj {f z : Z} (hf : f.norm ≠ 0) (h : f.conj.pow 4 = (f.pow 4).mul z) : f.pow e16200 = z := by
  have a : (f.pow eNorm) = f.mul f.conj := by rw [frob_norm, Z.mul_conj]
  have b : (f.pow 4050).mul f = f.conj := by
    apply cancelZ hf
    rw [Z.mul_comm f.conj, ← a]; rfl
  have c : (f.pow e16200).mul (f.pow 4) = f.conj.pow 4 := by
    rw [← b, Z.mul_pow, ← Z.pow_mul]; rfl
  have n4 : (f.pow 4).norm ≠ 0 := by
    have : (f.pow 4) = (((Z.one.mul f).mul f).mul f).mul f := rfl
    rw [this, Z.one_mul, Z.norm_mul, Z.norm_mul, Z.norm_mul]; exact mul_ne (mul_ne (mul_ne hf hf) hf) hf
  apply cancelZ n4
  rw [c, h, Z.mul_comm]
theorem fourth_ok (p : Nat × Nat) (h : p.2 ≤ 4051) : zn (fourth p) = (zn p).pow 4 ∧ (fourth p).2 ≤ 4051 := by
  have a := qm2_ok p p h
  have b := qm2_ok (qm2 p p) (qm2 p p) a.1
  refine ⟨?_, b.1⟩
  unfold fourth
  rw [b.2, a.2]
  show _ = (((Z.one.mul (zn p)).mul (zn p)).mul (zn p)).mul (zn p)
  rw [Z.one_mul]; ac_rfl
theorem eqP_ok {p q : Nat × Nat} (h : eqP p q = true) : p = q := by
  simp only [eqP, Bool.and_eq_true, Nat.beq_eq] at h; exact Prod.ext h.1 h.2
theorem pairAt_ok {i : Nat} (hi : (i : Int) % 1013 ≠ 0) {ops : List Bool} (hg : cgood 1 ops = true) (ha : agood 1 ops = true) {z : Nat × Nat} (h : pairAt ops (4 * i % 4052) z = true) : zP ops (sq (4 * (i : Int))) (sq 4) = zn z := by
  have h0 : NR i 1 ((1, 0), 4 * i % 4052) (.one, sq (4 * (i : Int))) := ⟨by rw [Nat.mul_one], (by show 0 ≤ 4051; decide), by congr 1; simp, 1, one_ne, by rw [Z.mul_one]; rfl⟩
  obtain ⟨_, n2, _, r, hr, n4⟩ := NR_run hi ops 1 _ _ (by decide) (by decide) hg ha h0
  have hz := eqP_ok h
  unfold pairAt at h
  have e : zP ops (sq (4 * (i : Int))) (sq 4) = (mrun (sq (4 * (i : Int))) (sq 4) ops).1.pow e16200 := by unfold zP; rw [zM_eq hi hg]
  have nn : (mrun (sq (4 * (i : Int))) (sq 4) ops).1.norm ≠ 0 := by
    rw [← zM_eq hi hg]; exact zM_norm (j := 1) (by decide)
  change zn (nrun (4 * i % 4052) ops).1 = (Z.of r).mul (mrun (sq (4 * (i : Int))) (sq 4) ops).1 at n4
  change (nrun (4 * i % 4052) ops).1.2 ≤ 4051 at n2
  rw [e]
  generalize (mrun (sq (4 * (i : Int))) (sq 4) ops).1 = f at *
  generalize (nrun (4 * i % 4052) ops).1 = p at *
  have ef : (zn p).pow e16200 = f.pow e16200 := by rw [n4, Z.mul_pow, pof_e hr, Z.one_mul]
  rw [← ef]
  have hpn : (zn p).norm ≠ 0 := by rw [n4, Z.norm_mul, Z.norm_of]; exact mul_ne (mul_ne hr hr) nn
  apply pow_conj hpn
  have c : zn (p.1, (4051 - p.2) % 4051) = (zn p).conj := Z.ext' rfl (by
    show fi ((4051 - p.2) % 4051 : Nat) = - fi (p.2 : Int)
    rw [mod_fi, neg_fi n2])
  have l := fourth_ok (p.1, (4051 - p.2) % 4051) (by show (4051 - p.2) % 4051 ≤ 4051; omega)
  have r2 := fourth_ok p n2
  have m := qm2_ok (fourth p) z r2.2
  rw [← c, ← l.1, hz, m.2, r2.1]
theorem chkP_at (ops : List Bool) : ∀ (n i : Nat) (z : Nat × Nat), z.2 ≤ 4051 → chkP ops n i z = true → ∀ j, j < n → ∃ y : Nat × Nat, pairAt ops (4 * (i + j)) y = true ∧ zn y = (zn z).mul ((zn (2824, 4013)).pow j)
  | 0, _, _, _, _, _, hj => absurd hj (Nat.not_lt_zero _)
  | n+1, i, z, hz, h, j, hj => by
    simp only [chkP, Bool.and_eq_true] at h
    match j with
    | 0 => exact ⟨z, h.1, (Z.mul_one _).symm⟩
    | j+1 =>
      have q := qm2_ok z (2824, 4013) hz
      obtain ⟨y, y1, y2⟩ := chkP_at ops n (i+1) _ q.1 h.2 j (by omega)
      refine ⟨y, by rw [show i + (j + 1) = i + 1 + j by omega]; exact y1, ?_⟩
      rw [y2, q.2]
      show _ = (zn z).mul (((zn (2824, 4013)).pow j).mul (zn (2824, 4013)))
      ac_rfl
/-- The pair of the base and itself. -/
def zeta : Z := zn (2824, 4013)
theorem zP_base {ops : List Bool} (hg : cgood 1 ops = true) (ha : agood 1 ops = true) (hc : chkP ops 1012 1 (2824, 4013) = true) {i : Nat} (h1 : 1 ≤ i) (h2 : i ≤ 1012) : zP ops (sq (4 * (i : Int))) (sq 4) = zeta.pow i := by
  obtain ⟨y, y1, y2⟩ := chkP_at ops 1012 1 _ (by decide) hc (i - 1) (by omega)
  rw [show 1 + (i - 1) = i by omega] at y1
  have e : 4 * i % 4052 = 4 * i := Nat.mod_eq_of_lt (by omega)
  rw [← e] at y1
  rw [pairAt_ok (by omega) hg ha y1, y2, Z.mul_comm, show zeta.pow i = zeta.pow ((i - 1) + 1) by congr 1; omega]; rfl
theorem zP_all {ops : List Bool} (hg : cgood 1 ops = true) (ha : agood 1 ops = true) (hc : chkP ops 1012 1 (2824, 4013) = true) {i j : Nat} (h1 : 1 ≤ i) (h2 : i ≤ 1012) (h3 : 1 ≤ j) (h4 : j ≤ 1012) :
    zP ops (sq (4 * (i : Int))) (sq (4 * (j : Int))) = zeta.pow (i * j) := by
  rw [zP_lin (by omega) hg j h3 h4, zP_base hg ha hc h1 h2, Z.pow_mul]
theorem zeta_ne : zeta ≠ .one := fun h => by
  have := congrArg Z.re h; exact absurd this (by decide +kernel)
theorem zeta_whole : zeta.pow 1013 = .one := by
  have h := zP_base goOps_good (by decide) chkP_go (i := 1) (by decide) (by decide)
  have w := zP_whole (i := 4 * 1) (ops := goOps) (j := 1) (by decide)
  have e : zeta.pow 1 = zeta := Z.one_mul _
  rw [e] at h
  rw [← h]; exact w
theorem zeta_norm : zeta.norm = 1 := by decide +kernel
end Go.Proofs.YtjjmelhhalomaaaGreatDoor
namespace Go.Proofs.YtjjmelhhalomaaaGreatDoor
open Go.RowKit
set_option maxRecDepth 100000
set_option linter.unusedVariables false
set_option linter.unusedSimpArgs false
/-- The package's variable one, where it lies. -/
structure OneAt (w : World) : Prop where
  c0 : w.cell? ⟨6, 0, none⟩ = some (.int .i64 1)
  c1 : w.cell? ⟨6, 1, none⟩ = some (.int .i64 0)
  lt : 6 < w.heap.size
theorem OneAt.below {w w' : World} (h : OneAt w) (hb : Below w.heap.size w w') : OneAt w' :=
  ⟨(hb.cell (p := ⟨6, 0, none⟩) h.lt).trans h.c0, (hb.cell (p := ⟨6, 1, none⟩) h.lt).trans h.c1, Nat.lt_of_lt_of_le h.lt hb.size⟩
/-- A number of the greater field in memory. -/
structure TwAt (w : World) (b : Nat) (z : Z) : Prop where
  c0 : w.cell? ⟨b, 0, none⟩ = some (.int .i64 (fz z.re))
  c1 : w.cell? ⟨b, 1, none⟩ = some (.int .i64 (fz z.im))
  f0 : w.frozen? ⟨b, 0, none⟩ = false
  f1 : w.frozen? ⟨b, 1, none⟩ = false
  lt : b < w.heap.size
theorem TwAt.below {w w' : World} {b : Nat} {z : Z} (h : TwAt w b z) (hb : Below w.heap.size w w') : TwAt w' b z :=
  ⟨(hb.cell (p := ⟨b, 0, none⟩) h.lt).trans h.c0, (hb.cell (p := ⟨b, 1, none⟩) h.lt).trans h.c1, (hb.frozen (p := ⟨b, 0, none⟩) h.lt).trans h.f0, (hb.frozen (p := ⟨b, 1, none⟩) h.lt).trans h.f1, Nat.lt_of_lt_of_le h.lt hb.size⟩
theorem TwAt.set2 {w : World} {b : Nat} {z : Z} (h : TwAt w b z) (v : Z) : TwAt ((w.setCell ⟨b, 0, none⟩ (.int .i64 (fz v.re))).setCell ⟨b, 1, none⟩ (.int .i64 (fz v.im))) b v := by
  have k := set2_cell (x := .int .i64 (fz v.re)) (y := .int .i64 (fz v.im)) h.c0 h.c1
  exact ⟨k.1, k.2, by simp only [World.frozen?_setCell]; exact h.f0, by simp only [World.frozen?_setCell]; exact h.f1, by simpa [World.setCell] using h.lt⟩
theorem cell_else {w : World} {b c o k : Nat} (x : Value) (h : c ≠ b) : (w.setCell ⟨c, o, none⟩ x).cell? ⟨b, k, none⟩ = w.cell? ⟨b, k, none⟩ :=
  by rw [World.cell?_setCell_other (h := fun e => h (congrArg Addr.block e))]
theorem TwAt.other {w : World} {b c o : Nat} {z : Z} (h : TwAt w b z) (x : Value) (hne : c ≠ b) : TwAt (w.setCell ⟨c, o, none⟩ x) b z :=
  ⟨(cell_else x hne).trans h.c0, (cell_else x hne).trans h.c1, by simp only [World.frozen?_setCell]; exact h.f0, by simp only [World.frozen?_setCell]; exact h.f1, by simpa [World.setCell] using h.lt⟩
theorem SpAt.other {w : World} {b c o : Nat} {s : Sp} (h : SpAt w b s) (x : Value) (hne : c ≠ b) : SpAt (w.setCell ⟨c, o, none⟩ x) b s :=
  ⟨(cell_else x hne).trans h.c0, (cell_else x hne).trans h.c1, (cell_else x hne).trans h.c2, by simp only [World.frozen?_setCell]; exact h.f0, by simp only [World.frozen?_setCell]; exact h.f1, by simp only [World.frozen?_setCell]; exact h.f2, by simpa [World.setCell] using h.lt⟩
theorem mul_z (y z : Z) (w : World) : Calls Tryz.prog 182 #[twR y, twR z] w fun e w' => e = .returned (twR (y.mul z)) ∧ Below w.heap.size w w' := by
  have := twinMul_c (fz y.re) (fz y.im) (fz z.re) (fz z.im) w; rw [zi_fz, zi_fz] at this; exact this
theorem power_z (z : Z) (n : Int) (w : World) (h0 : 0 ≤ n) (h1 : n ≤ 9223372036854775807) : Calls Tryz.prog 184 #[twR z, .int .i64 n] w fun e w' => e = .returned (twR (z.pow n.toNat)) ∧ Below w.heap.size w w' := by
  have := twinPower_c (fz z.re) (fz z.im) n w h0 h1; rw [zi_fz] at this; exact this
theorem slope_n (a b : Sp) (w : World) (h : sSlope a b = none) : Calls Tryz.prog 89 #[spV a, spV b] w fun e w' => e = .returned (.tuple #[.int .i64 0, .bool false]) ∧ Below w.heap.size w w' := by
  obtain ⟨x, y, f⟩ := a; obtain ⟨u, v, g⟩ := b
  unfold sSlope at h
  split at h
  · cases h
  · rename_i hx
    have hx' : x = u := Decidable.of_not_not hx
    split at h
    · rename_i hy
      by_cases e : y = v
      · have e0 : y = 0 := by rcases hy with h | h; exact absurd e h; exact h
        exact slope_upright2 x y u v f g w (by simpa using hx') (by simpa using e) (by simpa using e0)
      · exact slope_upright1 x y u v f g w (by simpa using hx') (by simpa using e)
    · cases h
theorem slope_s (a b : Sp) (s : Int) (w : World) (h : sSlope a b = some s) (ha : Ok a) : Calls Tryz.prog 89 #[spV a, spV b] w fun e w' => e = .returned (.tuple #[.int .i64 s, .bool true]) ∧ Below w.heap.size w w' := by
  have y0 := ha.y0; have y1 := ha.y1
  obtain ⟨x, y, f⟩ := a; obtain ⟨u, v, g⟩ := b
  unfold sSlope at h
  split at h
  · rename_i hx
    cases h
    exact slope_unlike x y u v f g w (by simpa using hx)
  · rename_i hx
    have hx' : x = u := Decidable.of_not_not hx
    split at h
    · cases h
    · rename_i hy
      cases h
      exact slope_same x y u v f g w (by simpa using hx') (by simp only [not_or] at hy; simpa using hy.1) (by simp only [not_or] at hy; simpa using hy.2) y0 y1
theorem twR_one : twR .one = .agg #[.int .i64 1, .int .i64 0] := rfl
set_option maxHeartbeats 1000000 in
theorem line_n (a b t : Sp) (w : World) (hO : OneAt w) (h : sSlope a b = none) : Calls Tryz.prog 183 #[spV a, spV b, spV t] w fun e w' => e = .returned (.agg #[.int .i64 1, .int .i64 0]) ∧ Below w.heap.size w w' := by
  go_enter Tryz.func183, Tryz.ntmps183
  go_wp2_with fail
  refine (slope_n a b _ h).mono ?_; rintro e w1 ⟨rfl, hb⟩
  obtain ⟨hc1, hf1⟩ := bcell hb
  have z1 := hb.size
  try simp only [World.size_alloc, World.size_setCell, World.size_drew] at z1
  have s1_0 : w.heap.size < w1.heap.size := by omega
  have s1_1 : w.heap.size + 1 < w1.heap.size := by omega
  have s1_2 : w.heap.size + 1 + 1 < w1.heap.size := by omega
  have s1_3 : w.heap.size + 1 + 1 + 1 < w1.heap.size := by omega
  have hB1 : Below w.heap.size w w1 := below_seq (by repeat (first | exact Below.refl _ _ | refine balloc ?_ _ | refine Below.drew ?_ | refine below_drewN ?_ _ | refine below_set ?_ (by first | omega | (dsimp only; omega)) _)) hb
  clear hb
  have hO1 := hO.below hB1
  obtain ⟨q0, q1, ql⟩ := hO
  have q2 : 0 < w.heap.size := Nat.lt_of_le_of_lt (Nat.zero_le _) ql
  obtain ⟨o0, o1, ol⟩ := hO1
  have r0 : w1.cell? ⟨w.heap.size + 1 + 1 + 1, 0, none⟩ = some (.int .i64 0) := by go_simp
  have r1 : w1.cell? ⟨w.heap.size + 1 + 1 + 1, 1, none⟩ = some (.int .i64 0) := by go_simp
  go_wp2
  have k := set2_cell (w := w1) (x := .int .i64 1) (y := .int .i64 0) r0 r1
  refine bodyPost_ret (v := .agg #[.int .i64 1, .int .i64 0]) (by simp [results, Tryz.results183, go_sem, k.1, k.2]) rfl ⟨rfl, set2_below (by repeat (first | exact hB1 | exact Below.refl _ _ | refine balloc ?_ _ | refine Below.drew ?_ | refine below_drewN ?_ _ | refine below_set ?_ (by first | omega | (dsimp only; omega)) _)) (by omega)⟩
theorem agg2_eq {a b c d : Int} (h : a = c) (k : b = d) : Ending.returned (.agg #[.int .i64 a, .int .i64 b]) = .returned (.agg #[.int .i64 c, .int .i64 d]) := by rw [h, k]
theorem line_alg (a t : Sp) (s : Int) (ht : 0 ≤ t.y ∧ t.y < 4051) : pSub (pMul s (t.x + a.x)) a.y = fz (⟨fi s * (fi t.x + fi a.x) - fi a.y, fi t.y⟩ : Z).re ∧ t.y = fz (⟨fi s * (fi t.x + fi a.x) - fi a.y, fi t.y⟩ : Z).im :=
  ⟨fz_eq (r_pSub _ _) (by rw [fi_pSub, fi_pMul, fi_add]), fz_eq ht rfl⟩
set_option maxHeartbeats 1000000 in
theorem line_s (a b t : Sp) (s : Int) (w : World) (h : sSlope a b = some s) (ha : Ok a) (ht : Ok t) : Calls Tryz.prog 183 #[spV a, spV b, spV t] w fun e w' => e = .returned (twR (zLine a b t)) ∧ Below w.heap.size w w' := by
  have hz : Hid (zLine a b t = ⟨fi s * (fi t.x + fi a.x) - fi a.y, fi t.y⟩) := by show _ = _; unfold zLine; rw [h]
  have hl := Lib.hid (line_alg a t s ⟨ht.y0, ht.y1⟩)
  have e1 : IntKind.i64.wrap (t.x + a.x) = t.x + a.x := IntWalk.i64_in _ (by have := ha.x0; have := ha.x1; have := ht.x0; have := ht.x1; omega)
  go_enter Tryz.func183, Tryz.ntmps183
  go_wp2_with fail
  refine (slope_s a b s _ h ha).mono ?_; rintro e w1 ⟨rfl, hb⟩
  obtain ⟨hc1, hf1⟩ := bcell hb
  have z1 := hb.size
  try simp only [World.size_alloc, World.size_setCell, World.size_drew] at z1
  have s1_0 : w.heap.size < w1.heap.size := by omega
  have s1_1 : w.heap.size + 1 < w1.heap.size := by omega
  have s1_2 : w.heap.size + 1 + 1 < w1.heap.size := by omega
  have s1_3 : w.heap.size + 1 + 1 + 1 < w1.heap.size := by omega
  have hB1 : Below w.heap.size w w1 := below_seq (by repeat (first | exact Below.refl _ _ | refine balloc ?_ _ | refine Below.drew ?_ | refine below_drewN ?_ _ | refine below_set ?_ (by first | omega | (dsimp only; omega)) _)) hb
  clear hb
  go_wp2_with fail
  refine wp_region_grow_tail 13 Tryz.mixed (by kernel_rfl) ?_
  simp only [List.take_succ_cons, List.take_zero, List.drop_succ_cons, List.drop_zero]
  repeat (quiet_step ((first | (go_at_call 79; exact grow_same (primeMul_c _ _ _)) | (go_at_call 90; exact grow_same (primeSub_c _ _ _)))))
  refine wpQuiet_nil ?_
  intro _ hw'
  obtain ⟨x2, rfl⟩ := hw'
  have z2 := x2.h.size
  try simp only [World.size_alloc, World.size_setCell, World.size_drew] at z2
  have s2_0 : w.heap.size < x2.w.heap.size := by omega
  have s2_1 : w.heap.size + 1 < x2.w.heap.size := by omega
  have s2_2 : w.heap.size + 1 + 1 < x2.w.heap.size := by omega
  have s2_3 : w.heap.size + 1 + 1 + 1 < x2.w.heap.size := by omega
  have hB2 : Below w.heap.size w x2.w := below_seq (by repeat (first | exact hB1 | exact Below.refl _ _ | refine balloc ?_ _ | refine Below.drew ?_ | refine below_drewN ?_ _ | refine below_set ?_ (by first | omega | (dsimp only; omega)) _)) x2.h
  have r0 : x2.w.cell? ⟨w.heap.size + 1 + 1 + 1, 0, none⟩ = some (.int .i64 0) := by go_simp
  have r1 : x2.w.cell? ⟨w.heap.size + 1 + 1 + 1, 1, none⟩ = some (.int .i64 0) := by go_simp
  clear e1
  go_wp2
  have k := set2_cell (w := x2.w) (x := .int .i64 (pSub (pMul s (t.x + a.x)) a.y)) (y := .int .i64 t.y) r0 r1
  refine bodyPost_ret (v := .agg #[.int .i64 (pSub (pMul s (t.x + a.x)) a.y), .int .i64 t.y]) (by simp [results, Tryz.results183, go_sem, k.1, k.2]) rfl ⟨?_, set2_below (by repeat (first | exact hB2 | exact Below.refl _ _ | refine balloc ?_ _ | refine Below.drew ?_ | refine below_drewN ?_ _ | refine below_set ?_ (by first | omega | (dsimp only; omega)) _)) (by omega)⟩
  rw [hz.out]
  exact agg2_eq hl.out.1 hl.out.2
theorem line_c (a b t : Sp) (w : World) (hO : OneAt w) (ha : Ok a) (ht : Ok t) : Calls Tryz.prog 183 #[spV a, spV b, spV t] w fun e w' => e = .returned (twR (zLine a b t)) ∧ Below w.heap.size w w' := by
  cases h : sSlope a b with
  | none =>
    have e : zLine a b t = .one := by unfold zLine; rw [h]
    rw [e]; exact line_n a b t w hO h
  | some s => exact line_s a b t s w h ha ht
set_option maxHeartbeats 1000000 in
theorem len_c (w : World) : Calls Tryz.prog 181 #[.int .u64 1013] w fun e w' => e = .returned (.int .i64 10) ∧ Below w.heap.size w w' := by
  go_enter Tryz.func181, Tryz.ntmps181
  go_wp2
  go_ret
  exact ⟨by kernel_rfl, Below.refl _ _⟩
end Go.Proofs.YtjjmelhhalomaaaGreatDoor
namespace Go.Proofs.YtjjmelhhalomaaaGreatDoor
open Go.RowKit
set_option maxRecDepth 100000
set_option linter.unusedVariables false
set_option linter.unusedSimpArgs false
attribute [local go_sem ↓] Go.wp_at_zero Go.wp_at_succ
/-- The variables that a session reads lie as they were laid. -/
structure RunAt (w : World) : Prop where
  F : FarAt w
  E : ErrAt w
  O : OneAt w
  T : TenAt w
  S : SynAt w
  R : RngAt w
  M : (∃ m, w.cell? ⟨3, 0, none⟩ = some (.int .i64 m)) ∧ 3 < w.heap.size
  U : w.cell? ⟨1, 0, none⟩ = some (.iface 84 (.int .i64 2)) ∧ 1 < w.heap.size
theorem RunAt.below {w w' : World} (h : RunAt w) (hb : Below w.heap.size w w') : RunAt w' := by
  refine ⟨h.F.below hb, h.E.below hb, h.O.below hb, h.T.below hb, h.S.below hb, h.R.below hb, ?_, ((bcell hb).1 _ _ h.U.2).trans h.U.1, Nat.lt_of_lt_of_le h.U.2 hb.size⟩
  obtain ⟨⟨m, hm⟩, hl⟩ := h.M
  exact ⟨⟨m, ((bcell hb).1 _ _ hl).trans hm⟩, Nat.lt_of_lt_of_le hl hb.size⟩
/-- A line that is read: its numbers, and its text. -/
def lnV (v : Value) (t : List UInt8) : Value := .agg #[v, .string (bS t)]
theorem Sm.of_ok {s : Sp} (h : Ok s) : Sm s := ⟨h.x0, by have := h.x1; omega, h.y0, by have := h.y1; omega⟩
theorem ordOf_bd (u : Int) : 1 ≤ ordOf u ∧ ordOf u ≤ 4052 := by
  unfold ordOf
  repeat (first | split | decide)
/-- What a deed gives: its answer. -/
def DeedC (f : Nat) (v : Value) (t : List UInt8) (w : World) (out : List UInt8) (c : Int) : Prop :=
  Calls Tryz.prog f #[lnV v t] w fun e w' => e = .returned (.tuple #[.string (bS out), errR c]) ∧ Below w.heap.size w w'
set_option maxHeartbeats 4000000 in
theorem deed1 (n : Nat) (b o c : Nat) (t : List UInt8) (w : World) (hn : n < 10000) (R : RunAt w) (hI : IntsAt w b o [(n : Int)]) :
    DeedC 136 (.slice (some ⟨b, o, none⟩) 1 c) t w (toldB (sq (4 * (n : Int)))) 0 := by
  unfold DeedC lnV
  obtain ⟨P, hP⟩ : ∃ P, sq (4 * (n : Int)) = P := ⟨_, rfl⟩
  have oP : Ok P := by rw [← hP]; exact sq_ok _
  have l1 := hI.c 0 (by simp)
  have l2 := hI.lt
  simp only [List.getElem_cons_zero, Nat.add_zero] at l1
  rw [hP]
  replace hP := Lib.hid hP
  have R' := Lib.hid R
  have hb0 := Lib.hid (below_alloc w (.cells #[.slice (some ⟨b, o, none⟩) 1 c, .string (bS t)] 143))
  have hz0 := bS_size t
  clear hI R
  go_enter Tryz.func136, Tryz.ntmps136
  go_wp2_with fail
  refine (by_e n P _ (R'.out.F.below hb0.out) hP).mono ?_; rintro e w1 ⟨rfl, hb⟩
  have hB1 := Lib.hid (below_seq hb0.out hb)
  clear hb l1 l2
  go_wp2_with fail
  refine (told_c P .nilIface _ (Sm.of_ok oP) (R'.out.T.below hB1.out)).mono ?_; rintro e w2 ⟨rfl, hb⟩
  have hB2 := Lib.hid (below_seq hB1.out hb)
  clear hb
  go_wp2
  go_ret2
  exact ⟨rfl, hB2.out⟩
set_option maxHeartbeats 4000000 in
theorem deed2 (n : Nat) (b o c : Nat) (t : List UInt8) (w : World) (hn : n < 10000) (R : RunAt w) (hI : IntsAt w b o [(n : Int)]) (P : Sp) (k : Int) (hP : Sm P)
    (hL : ∀ w1 : World, Calls Tryz.prog 38 #[.int .i64 (n : Int)] w1 fun e w' => e = .returned (.tuple #[spV P, errR k]) ∧ Below w1.heap.size w1 w') :
    DeedC 138 (.slice (some ⟨b, o, none⟩) 1 c) t w (toldB P) k := by
  unfold DeedC lnV
  have l1 := hI.c 0 (by simp)
  have l2 := hI.lt
  simp only [List.getElem_cons_zero, Nat.add_zero] at l1
  have R' := Lib.hid R
  replace hL := Lib.hid hL
  replace hP := Lib.hid hP
  generalize errR k = E at *
  have hb0 := Lib.hid (below_alloc w (.cells #[.slice (some ⟨b, o, none⟩) 1 c, .string (bS t)] 143))
  clear hI R
  go_enter Tryz.func138, Tryz.ntmps138
  go_wp2_with fail
  refine (hL.out _).mono ?_; rintro e w1 ⟨rfl, hb⟩
  have hB1 := Lib.hid (below_seq hb0.out hb)
  clear hb l1 l2
  go_wp2_with fail
  refine (told_c P E _ hP.out (R'.out.T.below hB1.out)).mono ?_; rintro e w2 ⟨rfl, hb⟩
  have hB2 := Lib.hid (below_seq hB1.out hb)
  clear hb
  go_wp2
  go_ret2
  exact ⟨rfl, hB2.out⟩
set_option maxHeartbeats 4000000 in
theorem deed3 (n : Nat) (b o c : Nat) (t : List UInt8) (w : World) (hn : n < 10000) (R : RunAt w) (hI : IntsAt w b o [(n : Int)]) :
    DeedC 139 (.slice (some ⟨b, o, none⟩) 1 c) t w (joinN [(ordOf (4 * (n : Int))).toNat]) 0 := by
  unfold DeedC lnV
  obtain ⟨P, hP⟩ : ∃ P, sq (4 * (n : Int)) = P := ⟨_, rfl⟩
  have hbd := ordOf_bd (4 * (n : Int))
  obtain ⟨D, hD⟩ : ∃ D : Nat, ordOf (4 * (n : Int)) = (D : Int) := ⟨(ordOf (4 * (n : Int))).toNat, by omega⟩
  have hOr : Hid (∀ w1, FarAt w1 → Calls Tryz.prog 140 #[spV P] w1 fun e w' => e = .returned (.tuple #[.int .i64 (D : Int), .nilIface]) ∧ Below w1.heap.size w1 w') := Lib.hid fun w1 hF1 => by
    have := timesOrder_ok (4 * (n : Int)) w1 hF1
    rw [hP, hD] at this
    exact this
  rw [hD, Int.toNat_natCast]
  rw [hD] at hbd
  have l1 := hI.c 0 (by simp)
  have l2 := hI.lt
  simp only [List.getElem_cons_zero, Nat.add_zero] at l1
  replace hP := Lib.hid hP
  have R' := Lib.hid R
  have hb0 := Lib.hid (below_alloc w (.cells #[.slice (some ⟨b, o, none⟩) 1 c, .string (bS t)] 143))
  clear hI R hD
  go_enter Tryz.func139, Tryz.ntmps139
  go_wp2_with fail
  refine (by_e n P _ (R'.out.F.below hb0.out) hP).mono ?_; rintro e w1 ⟨rfl, hb⟩
  have hB1 := Lib.hid (below_seq hb0.out hb)
  clear hb l1 l2
  go_wp2_with fail
  refine (hOr.out _ (R'.out.F.below hB1.out)).mono ?_; rintro e w2 ⟨rfl, hb⟩
  have hB2 := Lib.hid (below_seq hB1.out hb)
  have hW := Lib.hid (words_at [D] w2.heap.size 1 w2 _ #[.int .i64 (D : Int)] 3 rfl rfl rfl (by show 1 ≤ 1000; decide) (fun m hm => by
    simp only [List.mem_cons, List.not_mem_nil, or_false] at hm
    omega) (R'.out.T.below hB2.out))
  have hB3 := Lib.hid (balloc hB2.out (.cells #[.int .i64 (D : Int)] 3))
  clear hb
  go_wp2_with fail
  refine hW.out.mono ?_; rintro e w3 ⟨rfl, hb⟩
  have hB4 := Lib.hid (below_seq hB3.out hb)
  clear hb
  go_wp2
  go_ret2
  exact ⟨rfl, hB4.out⟩
set_option maxHeartbeats 4000000 in
theorem deed4 (v : Value) (t : List UInt8) (w : World) (ht : t.length ≤ 3000) (R : RunAt w) :
    DeedC 142 v t w (joinN [(hnum t).toNat]) 0 := by
  unfold DeedC lnV
  have hbd := hnum_bd t
  obtain ⟨D, hD⟩ : ∃ D : Nat, hnum t = (D : Int) := ⟨(hnum t).toNat, by omega⟩
  have hH : Hid (∀ w1, Calls Tryz.prog 94 #[.string (bS t)] w1 fun e w' => e = .returned (.int .i64 (D : Int)) ∧ Below w1.heap.size w1 w') := Lib.hid fun w1 => hashNumber_n (bS t) D w1 (by rw [bS_size]; omega) (Lib.hid (by rw [bS_list]; exact hD))
  rw [hD, Int.toNat_natCast]
  rw [hD] at hbd
  have R' := Lib.hid R
  have hb0 := Lib.hid (below_alloc w (.cells #[v, .string (bS t)] 143))
  clear R hD
  go_enter Tryz.func142, Tryz.ntmps142
  go_wp2_with fail
  refine (hH.out _).mono ?_; rintro e w2 ⟨rfl, hb⟩
  have hB2 := Lib.hid (below_seq hb0.out hb)
  have hW := Lib.hid (words_at [D] w2.heap.size 1 w2 _ #[.int .i64 (D : Int)] 3 rfl rfl rfl (by show 1 ≤ 1000; decide) (fun m hm => by
    simp only [List.mem_cons, List.not_mem_nil, or_false] at hm
    omega) (R'.out.T.below hB2.out))
  have hB3 := Lib.hid (balloc hB2.out (.cells #[.int .i64 (D : Int)] 3))
  clear hb
  go_wp2_with fail
  refine hW.out.mono ?_; rintro e w3 ⟨rfl, hb⟩
  have hB4 := Lib.hid (below_seq hB3.out hb)
  clear hb
  go_wp2
  go_ret2
  exact ⟨rfl, hB4.out⟩
end Go.Proofs.YtjjmelhhalomaaaGreatDoor
namespace Go.Proofs.YtjjmelhhalomaaaGreatDoor
open Go.RowKit
set_option maxRecDepth 100000
set_option linter.unusedVariables false
set_option linter.unusedSimpArgs false
attribute [local go_sem ↓] Go.wp_at_zero Go.wp_at_succ
/-- Up to the next blank, and what is behind it. -/
def cutW (s : List UInt8) : List UInt8 × List UInt8 × Bool := Lib.cut s [32]
theorem cutW_len (s : List UInt8) : (cutW s).1.length ≤ s.length ∧ (cutW s).2.1.length ≤ s.length := by
  unfold cutW Lib.cut
  split
  · exact ⟨by rw [List.length_take]; omega, by rw [List.length_drop]; omega⟩
  · exact ⟨Nat.le_refl _, Nat.zero_le _⟩
/-- So many numbers. -/
def takeN : Nat → List UInt8 → Bool → Option (List Nat × List UInt8 × Bool)
  | 0, r, m => some ([], r, m)
  | k + 1, r, m => match takeN k r m with
    | none => none
    | some (ns, r1, m1) => if m1 then (match numF (cutW r1).1 with
      | none => none
      | some n => some (ns ++ [n], (cutW r1).2.1, (cutW r1).2.2)) else none
theorem takeN_none {k : Nat} {r : List UInt8} {m : Bool} (h : takeN k r m = none) (j : Nat) (hj : k ≤ j) : takeN j r m = none := by
  induction j with
  | zero => obtain rfl : k = 0 := by omega
            exact h
  | succ j ih =>
    by_cases e : k = j + 1
    · rw [← e]; exact h
    · show (match takeN j r m with | none => none | some (ns, r1, m1) => _) = none
      rw [ih (by omega)]
theorem takeN_spec : ∀ (k : Nat) (r : List UInt8) (m : Bool) (ns : List Nat) (r1 : List UInt8) (m1 : Bool), takeN k r m = some (ns, r1, m1) → ns.length = k ∧ r1.length ≤ r.length ∧ ∀ n ∈ ns, n < 10000
  | 0, r, m, ns, r1, m1, h => by
    simp only [takeN, Option.some.injEq, Prod.mk.injEq] at h
    obtain ⟨rfl, rfl, rfl⟩ := h
    exact ⟨rfl, Nat.le_refl _, fun n hn => absurd hn List.not_mem_nil⟩
  | k + 1, r, m, ns, r1, m1, h => by
    unfold takeN at h
    split at h
    · cases h
    · rename_i ns0 r0 m0 h0
      obtain ⟨a1, a2, a3⟩ := takeN_spec k r m ns0 r0 m0 h0
      split at h
      · split at h
        · cases h
        · rename_i n hn
          simp only [Option.some.injEq, Prod.mk.injEq] at h
          obtain ⟨rfl, rfl, rfl⟩ := h
          refine ⟨by simp [a1], Nat.le_trans (cutW_len r0).2 a2, fun x hx => ?_⟩
          rcases List.mem_append.1 hx with hx | hx
          · exact a3 x hx
          · obtain rfl := List.mem_singleton.1 hx
            exact (numF_some hn).1
      · cases h
/-- strings.Cut at a blank. -/
theorem cut_c (s : List UInt8) (w : World) (hl : s.length ≤ 3000) (R : RunAt w) : Calls Tryz.prog 104 #[.string (bS s), .string (bS [32])] w fun e w' => e = .returned (.tuple #[.string (bS (cutW s).1), .string (bS (cutW s).2.1), .bool (cutW s).2.2]) ∧ Below w.heap.size w w' := by
  obtain ⟨⟨m, hm⟩, -⟩ := R.M
  refine (Tryz.strings_Cut (bS s) (bS [32]) m w (by rw [bS_size]; omega) hm).mono ?_
  rintro e w' ⟨rfl, n, rfl⟩
  refine ⟨?_, below_drewN (Below.refl _ _) _⟩
  rw [bS_list, bS_list]; rfl
/-- The numbers lie as a line's slice. -/
def LnS (w : World) (v : Value) (ns : List Nat) : Prop := (ns = [] ∧ v = .slice none 0 0) ∨ ∃ b c, v = .slice (some ⟨b, 0, none⟩) ns.length c ∧ IntsAt w b 0 (ns.map fun n : Nat => (n : Int)) ∧ ns.length ≤ c ∧ c ≤ 9223372036854775807
theorem LnS.of_own {w : World} {B n : Nat} {v : Value} {ns : List Nat} (h : w.ownsRow B 3 1 v n (ns.map fun n : Nat => Value.int .i64 (n : Int))) (hn : ns.length = n) : LnS w v ns := by
  subst hn
  rcases h.2 with ⟨rfl, h0⟩ | ⟨g, cap, cur, rfl, -, -, hc, hm, -, -⟩
  · exact .inl ⟨List.eq_nil_of_length_eq_zero h0, rfl⟩
  · rcases Nat.eq_zero_or_pos ns.length with h0 | hp
    · refine .inr ⟨g, cap, rfl, ⟨(h.lt g rfl).2, fun i hi => ?_⟩, hc, by unfold maxLen at hm; omega⟩
      rw [List.length_map] at hi; omega
    · obtain ⟨a, c, e, hs⟩ := own_ints (l := ns.map fun n : Nat => (n : Int)) (by rw [List.map_map]; exact h) (by rw [List.length_map])
      simp only [Value.slice.injEq] at e
      obtain ⟨rfl, -, rfl⟩ := e
      obtain ⟨b, o, e, hi⟩ := hs (by rw [List.length_map]; exact hp)
      have e1 : g = b := congrArg (fun x : Option Addr => (x.map Addr.block).getD 0) e
      have e2 : 0 = o := congrArg (fun x : Option Addr => (x.map Addr.off).getD 0) e
      subst e1 e2
      exact .inr ⟨_, _, rfl, hi, hc, by unfold maxLen at hm; omega⟩
end Go.Proofs.YtjjmelhhalomaaaGreatDoor
namespace Go.Proofs.YtjjmelhhalomaaaGreatDoor
open Go.RowKit
set_option maxRecDepth 100000
set_option linter.unusedVariables false
set_option linter.unusedSimpArgs false
theorem SpotsAt.but {S : Nat → Prop} {w w' : World} {b o : Nat} {l : List Sp} (h : SpotsAt w b o l) (hb : But S w w') (hs : ¬ S b) : SpotsAt w' b o l :=
  ⟨Nat.lt_of_lt_of_le h.lt hb.size, fun i hi => (hb.cell h.lt hs _).trans (h.cx i hi), fun i hi => (hb.cell h.lt hs _).trans (h.cy i hi), fun i hi => (hb.cell h.lt hs _).trans (h.cf i hi)⟩
set_option maxHeartbeats 16000000 in
theorem bdo_y (N M : List Int) (G : List Bool) (B p : Nat) (vc vg : Value) (gl : List Int) (C : List Sp) (a0 a1 : Option Addr) (c0 c1 : Nat) (RS : Sp) (s : Int) (X : Sp) (x : Int) (w : World) (hF : FarAt w) (hBk : BkV w B p vc vg N G) (hB0 : B ≤ w.heap.size) (hNl : N.length ≤ 1000) (hX : Hid (X = sq (4 * x))) (hgl : gl.length ≤ 9223372036854775807)
    (h0 : 0 < gl.length → ∃ b o, a0 = some ⟨b, o, none⟩ ∧ IntsAt w b o gl ∧ ¬ inB p vc vg b) (h1 : 0 < (M.map qS).length → ∃ b o, a1 = some ⟨b, o, none⟩ ∧ SpotsAt w b o (M.map qS) ∧ ¬ inB p vc vg b) (hin : ∀ g ∈ gl, 0 ≤ g ∧ g < N.length)
    (hEx : Hid (∀ w1 : World, Below w.heap.size w w1 → Calls Tryz.prog 17 #[.pointer (some ⟨p, 0, none⟩), .slice a0 gl.length c0, .slice a1 M.length c1] w1 fun e w' => e = .returned (.tuple #[spV X, .nilIface]) ∧ Below w1.heap.size w1 w'))
    (hm : N.length + M.length ≤ 1000) (s0 : 0 ≤ s) (s1 : s < 1013) (oR : Ok RS) (hq : Hid (Sp.beq (sq (4 * hJ * s)) (sSum RS (sq (4 * x * bAsk RS X))) = true)) :
    Calls Tryz.prog 20 #[.pointer (some ⟨p, 0, none⟩), dlV (.slice a0 gl.length c0) (.slice a1 M.length c1) RS s] w fun e w' => e = .returned .nilIface ∧ Did w w' B p vc vg (N ++ M) (goneL G gl ++ List.replicate M.length false) := by
  obtain ⟨n, hn⟩ : ∃ n, gl.length = n := ⟨_, rfl⟩
  obtain ⟨m, hm'⟩ : ∃ m, M.length = m := ⟨_, rfl⟩
  rw [hn, hm'] at hEx ⊢
  rw [hm'] at hm
  replace hn := Lib.hid hn
  replace hm' := Lib.hid hm'
  obtain ⟨ac, cc, rfl⟩ := own_slB hBk.rc
  obtain ⟨ag, cg, rfl⟩ := own_slB hBk.rg
  have p0 := hBk.c0
  have hp := hBk.lt
  have hcp := Lib.hid (fun (w' : World) (hb : Below w.heap.size w w') => (⟨((bcell hb).1 _ 0 hp).trans p0, Nat.lt_of_lt_of_le hp hb.size⟩ : w'.cell? ⟨p, 0, none⟩ = some (.slice ac N.length cc) ∧ p < w'.heap.size))
  have hF' := Lib.hid hF
  replace hBk := Lib.hid hBk
  clear p0 hF
  go_enter Tryz.func20, Tryz.ntmps20
  go_wp2_with fail
  have hb0 := Lib.hid (below_alloc w (.cells #[.slice a0 n c0, .slice a1 m c1, .int .i64 RS.x, .int .i64 RS.y, .bool RS.far, .int .i64 s] 53))
  refine (hEx.out _ hb0.out).mono ?_; rintro e w1 ⟨rfl, hb1⟩
  have hB1 := Lib.hid (below_seq hb0.out hb1)
  obtain ⟨hcc, -⟩ := bcell hb1
  have e0 : w1.cell? ⟨w.heap.size, 0, none⟩ = some (.slice a0 n c0) := by rw [hcc _ _ (by simp)]; go_simp
  have e1 : w1.cell? ⟨w.heap.size, 1, none⟩ = some (.slice a1 m c1) := by rw [hcc _ _ (by simp)]; go_simp
  have e2 : w1.cell? ⟨w.heap.size, 2, none⟩ = some (.int .i64 RS.x) := by rw [hcc _ _ (by simp)]; go_simp
  have e3 : w1.cell? ⟨w.heap.size, 3, none⟩ = some (.int .i64 RS.y) := by rw [hcc _ _ (by simp)]; go_simp
  have e4 : w1.cell? ⟨w.heap.size, 4, none⟩ = some (.bool RS.far) := by rw [hcc _ _ (by simp)]; go_simp
  have e5 : w1.cell? ⟨w.heap.size, 5, none⟩ = some (.int .i64 s) := by rw [hcc _ _ (by simp)]; go_simp
  have el : w.heap.size < w1.heap.size := by have := hb1.size; simp at this; omega
  have hd := Lib.hid (fun (w' : World) (hb : Below w1.heap.size w1 w') => (⟨((bcell hb).1 _ 0 el).trans e0, ((bcell hb).1 _ 1 el).trans e1, ((bcell hb).1 _ 2 el).trans e2, ((bcell hb).1 _ 3 el).trans e3, ((bcell hb).1 _ 4 el).trans e4, ((bcell hb).1 _ 5 el).trans e5, Nat.lt_of_lt_of_le el hb.size⟩ : w'.cell? ⟨w.heap.size, 0, none⟩ = some (.slice a0 n c0) ∧ w'.cell? ⟨w.heap.size, 1, none⟩ = some (.slice a1 m c1) ∧ w'.cell? ⟨w.heap.size, 2, none⟩ = some (.int .i64 RS.x) ∧ w'.cell? ⟨w.heap.size, 3, none⟩ = some (.int .i64 RS.y) ∧ w'.cell? ⟨w.heap.size, 4, none⟩ = some (.bool RS.far) ∧ w'.cell? ⟨w.heap.size, 5, none⟩ = some (.int .i64 s) ∧ w.heap.size < w'.heap.size))
  obtain ⟨r0, r1⟩ := hcp.out _ hB1.out
  clear hcc hb1 hb0 hEx
  have hB2 := Lib.hid (balloc hB1.out (.cells #[.int .i64 X.x, .int .i64 X.y, .bool X.far] 28))
  have hX2 := Lib.hid (SpAt.fresh w1 X.x X.y X.far 28)
  have hbX := Lib.hid (below_alloc w1 (.cells #[.int .i64 X.x, .int .i64 X.y, .bool X.far] 28))
  have d1 : decide ((1000 : Int) < (N.length : Int) + (m : Int)) = false := decide_eq_false (by omega)
  go_upto_region 4 with fail
  generalize w1.alloc (.cells #[.int .i64 X.x, .int .i64 X.y, .bool X.far] 28) = w2 at *
  clear r0 r1
  obtain ⟨r0, r1⟩ := hcp.out _ hB2.out
  clear e0 e1 e2 e3 e4 e5 el
  obtain ⟨e0, e1, e2, e3, e4, e5, el⟩ := hd.out _ hbX.out
  go_quiet (fail)
  have hbq := below_drewN (Below.refl w2.heap.size w2) nq
  have hB3 := Lib.hid (below_seq hB2.out hbq)
  have hX3 := Lib.hid (hX2.out.below hbq)
  have hbX3 := Lib.hid (below_seq hbX.out hbq)
  generalize w2.drewN nq = w3 at *
  clear r0 r1 e0 e1 e2 e3 e4 e5 el hbq hB2 hX2 hbX
  obtain ⟨e0, e1, e2, e3, e4, e5, el⟩ := hd.out _ hbX3.out
  go_wp2_with fail
  refine (rest_y s _ s0 s1).mono ?_; rintro e w' ⟨rfl, rfl⟩
  go_wp2_with fail
  refine (check_ok RS _ (hF'.out.below hB3.out) oR).mono ?_; rintro e w4 ⟨rfl, hb4⟩
  have hB4 := Lib.hid (below_seq hB3.out hb4)
  have hX4 := Lib.hid (hX3.out.below hb4)
  have hbX4 := Lib.hid (below_seq hbX3.out hb4)
  clear e0 e1 e2 e3 e4 e5 el hb4 hB3 hX3 hbX3
  obtain ⟨e0, e1, e2, e3, e4, e5, el⟩ := hd.out _ hbX4.out
  obtain ⟨x0, x1, x2, -, -, -, xl⟩ := hX4.out
  have oX : Ok X := by rw [hX.out]; exact sq_ok _
  obtain ⟨c, hc⟩ : ∃ c, bAsk RS X = c := ⟨_, rfl⟩
  rw [hc] at hq
  replace hc := Lib.hid hc
  go_wp2_with fail
  refine (bask_y RS X c _ (hF'.out.below hB4.out) oR oX hc).mono ?_; rintro e w5 ⟨rfl, hb5⟩
  have hB5 := Lib.hid (below_seq hB4.out hb5)
  have hX5 := Lib.hid (hX4.out.below hb5)
  have hbX5 := Lib.hid (below_seq hbX4.out hb5)
  clear e0 e1 e2 e3 e4 e5 el x0 x1 x2 xl hb5 hB4 hX4 hbX4
  obtain ⟨e0, e1, e2, e3, e4, e5, el⟩ := hd.out _ hbX5.out
  obtain ⟨x0, x1, x2, -, -, -, xl⟩ := hX5.out
  obtain ⟨P, hP⟩ : ∃ P, sq (4 * hJ * s) = P := ⟨_, rfl⟩
  obtain ⟨T, hT⟩ : ∃ T, sq (4 * x * c) = T := ⟨_, rfl⟩
  obtain ⟨D, hD⟩ : ∃ D, sSum RS T = D := ⟨_, rfl⟩
  have oT : Ok T := by rw [← hT]; exact sq_ok _
  rw [hP, hT, hD] at hq
  have hq := hq.out
  replace hP := Lib.hid hP
  replace hT := Lib.hid hT
  replace hD := Lib.hid hD
  have hF5 := Lib.hid (hF'.out.below hB5.out)
  have hX' := hX
  have cS := Lib.hid (fun (w1 : World) hF1 => second_c w1 hF1)
  obtain ⟨Z, hZ⟩ : ∃ Z, Z = sq (4 * hJ) := ⟨_, rfl⟩
  rw [← hZ] at cS
  replace hZ := Lib.hid hZ
  clear hX
  go_upto_region 14 with fail
  refine wp_region_grow Tryz.mixed (by kernel_rfl) ?_
  iterate 8 (quiet_step (first | (go_at_call 50; exact grow_of (cS.out _ (hF5.out.below (Grew.h _)))) | (go_at_call 37; exact grow_of (of_e Z P (4 * hJ) s _ (hF5.out.below (Grew.h _)) hZ hP))))
  repeat (quiet_step (first | (go_at_call 37; exact grow_of (of_e X T (4 * x) c _ (hF5.out.below (Grew.h _)) hX' hT)) | (go_at_call 47; exact grow_of (sum_e RS T D _ (hF5.out.below (Grew.h _)) oR oT hD))))
  refine wpQuiet_nil ?_
  intro _ hw'
  obtain ⟨y, rfl⟩ := hw'
  have hB6 := below_seq hB5.out y.h
  clear e0 e1 e2 e3 e4 e5 el x0 x1 x2 xl
  have hbX6 := Lib.hid (below_seq hbX5.out y.h)
  replace hB6 := Lib.hid hB6
  generalize y.w = w6 at *
  clear hB5 hX5 hbX5 hF5
  have bk6 := Lib.hid (hBk.out.below hB6.out)
  replace h0 := Lib.hid h0
  replace h1 := Lib.hid h1
  replace hin := Lib.hid hin
  have hdn : ¬ inB p (.slice ac N.length cc) (.slice ag N.length cg) w.heap.size := fun h => Nat.lt_irrefl _ (hBk.out.blk _ h).2
  obtain ⟨e0, e1, e2, e3, e4, e5, el⟩ := hd.out _ hbX6.out
  go_wp2
  clear e2 e3 e4 e5
  go_loopw [77] (fun i wr => ∃ k : Nat, k ≤ n ∧ i = .int .i64 k ∧ BkV wr B p (.slice ac N.length cc) (.slice ag N.length cg) N (goneL G (gl.take k)) ∧ But (inB p (.slice ac N.length cc) (.slice ag N.length cg)) w6 wr) (fun i _ => n - (intOf i).toNat)
  case atStart => exact ⟨0, Nat.zero_le _, rfl, bk6.out, But.refl _ _⟩
  case round =>
    obtain ⟨k, hk, rfl, bk, hbt⟩ := hrel
    replace bk := Lib.hid bk
    replace hbt := Lib.hid hbt
    by_cases hlt : k < n
    · have hkl : k < gl.length := by rw [hn.out]; exact hlt
      obtain ⟨b0, o0, rfl, hI, hnb⟩ := h0.out (by omega)
      have hI6 := hI.below hB6.out
      have l1 := (hbt.out.cell hI6.lt hnb (o0 + k)).trans (hI6.c k hkl)
      have l2 := Nat.lt_of_lt_of_le hI6.lt hbt.out.size
      obtain ⟨g0, g1⟩ := hin.out _ (List.getElem_mem hkl)
      have hsn := Lib.hid (goneL_snoc G (gl.take k) gl[k])
      rw [← take_snocI gl k hkl] at hsn
      clear hI hI6
      generalize gl[k] = g at *
      obtain ⟨j, rfl⟩ : ∃ j : Nat, g = (j : Int) := ⟨g.toNat, by omega⟩
      have hj : j < N.length := by omega
      have hrg := bk.out.rg
      have hag : ∃ gb, ag = some ⟨gb, 0, none⟩ := by
        rcases hrg.2 with ⟨h2, h3⟩ | ⟨gb, cap, cur, h2, -⟩
        · omega
        · simp only [Value.slice.injEq] at h2; exact ⟨gb, h2.1⟩
      obtain ⟨gb, rfl⟩ := hag
      have m1 := hrg.cellAt j (by omega)
      have m2 := hrg.frozenAt j
      have m3 : gb < wr.heap.size := (hrg.lt gb rfl).2
      have hjl : j < ((goneL G (gl.take k)).map Value.bool).length := by rw [List.length_map, goneL_len]; have := hBk.out.ln; omega
      rw [List.getElem?_eq_getElem hjl] at m1
      have p1 := bk.out.c1
      have p2 := bk.out.lt
      clear hrg
      generalize ((goneL G (gl.take k)).map Value.bool)[j] = ov at *
      have hbn := Lib.hid (bk.out.setg (g := gb) (c := cg) j)
      go_wp2
      go_roundw
      case rel => exact ⟨k + 1, by omega, by go_num, by rw [hsn.out, Int.toNat_natCast]; exact hbn.out, hbt.out.trans (But.setCell (p := ⟨gb, j, none⟩) (.inr (.inr rfl)) _)⟩
      case measure => simp [intOf]; omega
    · obtain rfl : k = n := by omega
      rw [List.take_of_length_le (by have := hn.out; omega)] at bk
      have hw6 : B ≤ w6.heap.size := Nat.le_trans hB0 hB6.out.size
      have q1 := (hbt.out.cell el hdn 1).trans e1
      have q2 := Nat.lt_of_lt_of_le el hbt.out.size
      have hsp : Hid (∀ w', But (inB p (.slice ac N.length cc) (.slice ag N.length cg)) w6 w' → 0 < (M.map qS).length → ∃ b o, a1 = some ⟨b, o, none⟩ ∧ SpotsAt w' b o (M.map qS)) := Lib.hid fun w' hb h => by
        obtain ⟨b, o, e, hs, hnb⟩ := h1.out h
        exact ⟨b, o, e, (hs.below hB6.out).but hb hnb⟩
      have p0 := bk.out.c0
      have pl := bk.out.lt
      have he1 := Lib.hid e1
      have hel := Lib.hid el
      clear e0 e1 el
      have bkD := Lib.hid (bk.out.below (Below.refl wr.heap.size wr).drew)
      have hA := Lib.hid (AppRun.spots (a := a1) (c := c1) bkD.out.rc (hsp.out _ (hbt.out.trans (But.of_below (Below.refl wr.heap.size wr).drew))) (Nat.le_trans hw6 hbt.out.size) (by omega) (by rw [List.length_map]; have := hm'.out; omega))
      rw [List.length_map, hm'.out] at hA
      go_wp2_with fail
      go_region_law (refine step_app (by rfl) _ _ (by rfl) hA.out (by rfl) (by rfl) ?_; intro v' w8 hrow hgr hloc; obtain ⟨z0, z1, z2, z3, z4, z5, z6, z7⟩ := bkD.out.grow (M := M) (Nat.le_trans hw6 hbt.out.size) (by rw [hm'.out]; exact hrow) hgr hloc; obtain ⟨av, cv, rfl⟩ := own_slB hrow; replace hrow := Lib.hid hrow; replace hgr := Lib.hid hgr; replace hloc := Lib.hid hloc; replace z5 := Lib.hid z5; replace z6 := Lib.hid z6; replace z7 := Lib.hid z7)
      all_goals
        have hng : (Value.slice ag N.length cg).ownBlock ≠ some p := hBk.out.ng
        obtain ⟨y0, y1, y2, y3, y5, y6⟩ := half z0 z1 z2 z3 z4 z5.out hrow.out z7.out hng
        have hbw := Lib.hid (hbt.out.trans ((But.of_below (Below.refl wr.heap.size wr).drew).trans ((But.of_grown hgr.out (fun k hk => .inr (.inl hk))).trans (But.setCell (p := ⟨p, 0, none⟩) (.inl rfl) (.slice av (N.length + m) cv)))))
        have hz8 := hgr.out.size
        generalize w8.setCell ⟨p, 0, none⟩ (.slice av (N.length + m) cv) = w9 at *
        clear z0 z1 z2 z3 z4 z5 q1 q2 p0
        have pl9 : p < w9.heap.size := Nat.lt_of_lt_of_le (Nat.lt_of_lt_of_le hBk.out.lt hB6.out.size) hbw.out.size
        have q1 := (hbw.out.cell hel.out hdn 1).trans he1.out
        have q2 := Nat.lt_of_lt_of_le hel.out hbw.out.size
        have hA2 := Lib.hid (AppRun.zeros (w := w9.drew) m y5.drew (Nat.le_trans hw6 hbw.out.size) (by omega) (by omega))
        replace y5 := Lib.hid y5
        replace y6 := Lib.hid y6
        go_wp2_with fail
        go_region_law (refine step_app (by rfl) _ _ (by rfl) hA2.out (by rfl) (by rfl) ?_; intro v2 w10 hrow2 hgr2 hloc2; have hb10 : w10.heap[p]? = w9.drew.heap[p]? := hgr2.block p pl9 (fun e => hng e.symm); have k0 : w10.cell? ⟨p, 0, none⟩ = some (.slice av (N.length + m) cv) := (World.cell?_of_block hb10).trans y0; have k1 : w10.cell? ⟨p, 1, none⟩ = some (.slice ag N.length cg) := (World.cell?_of_block hb10).trans y1; have k2 : w10.frozen? ⟨p, 0, none⟩ = false := (World.frozen?_of_block hb10).trans y2; have k3 : w10.frozen? ⟨p, 1, none⟩ = false := (World.frozen?_of_block hb10).trans y3; have k4 : p < w10.heap.size := Nat.lt_of_lt_of_le pl9 hgr2.size; obtain ⟨av2, cv2, rfl⟩ := own_slB hrow2; replace hrow2 := Lib.hid hrow2; replace hgr2 := Lib.hid hgr2; replace hloc2 := Lib.hid hloc2)
        all_goals
          obtain ⟨i1, i2⟩ := row_pair y6.out.drew z6.out.symm hgr2.out hloc2.out
          have hzz := hgr2.out.size
          have hz9 := hbw.out.size
          have hzw := hB6.out.size
          have hng2 : (Value.slice av2 (N.length + m) cv2).ownBlock ≠ some p := by
            rcases hloc2.out with e | e
            · rw [e]; exact hng
            · rw [e]; intro e2; have : w9.drew.heap.size = p := Option.some.inj e2; have h5 : w9.drew.heap.size = w9.heap.size := rfl; omega
          have hML : (N ++ M).length = N.length + m := by rw [List.length_append, hm'.out]
          have hfin := full k0 k1 k2 k3 k4 hBk.out.bp (N := N ++ M) (G := goneL G gl ++ List.replicate m false) (by rw [hML]; exact hrow2.out) (by rw [hML, List.map_append, ← spCells_app]; exact i1) (by rw [List.length_append, goneL_len, List.length_replicate, hML, hBk.out.ln]) i2.symm z7.out hng2
          have hbu := (hbw.out.trans ((But.of_below (Below.refl w9.heap.size w9).drew).trans ((But.of_grown hgr2.out (fun k hk => .inr (.inr hk))).trans (But.setCell (p := ⟨p, 1, none⟩) (.inl rfl) (.slice av2 (N.length + m) cv2)))))
          go_wp2
          go_ret
          refine ⟨rfl, _, _, hfin, fun k' hk' => ?_, (But.of_below hB6.out).trans hbu⟩
          have hwr := hbt.out.size
          have hwd : wr.drew.heap.size = wr.heap.size := rfl
          have hwd9 : w9.drew.heap.size = w9.heap.size := rfl
          rcases hk' with hk' | hk' | hk'
          · exact .inl (.inl hk')
          · rcases hloc.out with e | e
            · rw [e] at hk'; exact .inl (.inr (.inl hk'))
            · rw [e] at hk'; have := Option.some.inj hk'; exact .inr (by omega)
          · rcases hloc2.out with e | e
            · rw [e] at hk'; exact .inl (.inr (.inr hk'))
            · rw [e] at hk'; have := Option.some.inj hk'; exact .inr (by omega)
end Go.Proofs.YtjjmelhhalomaaaGreatDoor
namespace Go.Proofs.YtjjmelhhalomaaaGreatDoor
open Go.RowKit
set_option maxRecDepth 100000
set_option linter.unusedVariables false
set_option linter.unusedSimpArgs false
/-- The sum of the first k that are not gone. -/
def totN (N : List Int) (G : List Bool) : Nat → Int
  | 0 => 0
  | k + 1 => totN N G k + (if G.getD k true = true then 0 else N.getD k 0)
set_option maxHeartbeats 8000000 in
theorem btotal_c (N : List Int) (G : List Bool) (B p : Nat) (w : World) (hF : FarAt w) (hBk : BkAt w B p N G) (hN : N.length ≤ 1000000) :
    Calls Tryz.prog 24 #[.pointer (some ⟨p, 0, none⟩)] w fun e w' => e = .returned (spV (qS (totN N G N.length))) ∧ Below w.heap.size w w' := by
  obtain ⟨vc, vg, hBk⟩ := hBk
  obtain ⟨ac, cc, rfl⟩ := own_slB hBk.rc
  obtain ⟨ag, cg, rfl⟩ := own_slB hBk.rg
  have hNs : 0 < N.length → ∃ b o, ac = some ⟨b, o, none⟩ ∧ SpotsAt w b o (N.map qS) := fun h => by
    obtain ⟨a, c, e, hs⟩ := hBk.sp
    simp only [Value.slice.injEq] at e
    obtain ⟨rfl, -, -⟩ := e
    exact hs (by rw [List.length_map]; exact h)
  have hGs : 0 < N.length → ∃ b o, ag = some ⟨b, o, none⟩ ∧ BolsAt w b o G := fun h => by
    obtain ⟨a, c, e, hs⟩ := hBk.bo
    simp only [Value.slice.injEq] at e
    obtain ⟨rfl, -, -⟩ := e
    exact hs (by rw [hBk.ln]; exact h)
  have hGl := hBk.ln
  have p0 := hBk.c0
  have p1 := hBk.c1
  have hp := hBk.lt
  have hcp := Lib.hid (fun (w' : World) (hb : Below w.heap.size w w') => (⟨((bcell hb).1 _ 0 hp).trans p0, ((bcell hb).1 _ 1 hp).trans p1, Nat.lt_of_lt_of_le hp hb.size⟩ : w'.cell? ⟨p, 0, none⟩ = some (.slice ac N.length cc) ∧ w'.cell? ⟨p, 1, none⟩ = some (.slice ag N.length cg) ∧ p < w'.heap.size))
  clear hBk
  replace hNs := Lib.hid hNs
  replace hGs := Lib.hid hGs
  have hF' := Lib.hid hF
  obtain ⟨q0, q1, q2, ql⟩ := hF
  go_enter Tryz.func24, Tryz.ntmps24
  go_wp2
  have t0 : SpAt ((w.alloc (.cells #[.int .i64 0, .int .i64 0, .bool false] 28)).alloc (.cells #[.int .i64 0, .int .i64 0, .bool true] 28)) w.heap.size ⟨0, 0, false⟩ := (SpAt.fresh _ _ _ _ _).alloc _
  have t1 : SpAt ((w.alloc (.cells #[.int .i64 0, .int .i64 0, .bool false] 28)).alloc (.cells #[.int .i64 0, .int .i64 0, .bool true] 28)) (w.heap.size + 1) ⟨0, 0, true⟩ := SpAt.fresh1 _ _ _ _ _ _
  have tb := balloc (below_alloc w (.cells #[.int .i64 0, .int .i64 0, .bool false] 28)) (.cells #[.int .i64 0, .int .i64 0, .bool true] 28)
  replace t0 := Lib.hid t0
  replace t1 := Lib.hid t1
  replace tb := Lib.hid tb
  clear q0 q1 q2 ql
  generalize (w.alloc (.cells #[.int .i64 0, .int .i64 0, .bool false] 28)).alloc (.cells #[.int .i64 0, .int .i64 0, .bool true] 28) = w0 at *
  clear p0 p1
  go_loopw [12] (fun i wr => ∃ n : Nat, n ≤ N.length ∧ i = .int .i64 n ∧ SpAt wr w.heap.size ⟨0, 0, false⟩ ∧ SpAt wr (w.heap.size + 1) (qS (totN N G n)) ∧ Below w.heap.size w wr) (fun i _ => N.length - (intOf i).toNat)
  case atStart => exact ⟨0, Nat.zero_le _, rfl, t0.out, (by show SpAt w0 _ (qS 0); rw [qS_zero]; exact t1.out), tb.out⟩
  case round =>
    clear t0 t1 tb
    obtain ⟨n, hn, rfl, hr, ho, hB⟩ := hrel
    have hol := ho.lt
    have hrl := hr.lt
    replace hr := Lib.hid hr
    replace ho := Lib.hid ho
    replace hB := Lib.hid hB
    by_cases hlt : n < N.length
    · obtain ⟨bc, oc, rfl, hsN⟩ := hNs.out (by omega)
      obtain ⟨bg, og, rfl, hsG⟩ := hGs.out (by omega)
      have hjm : n < (N.map qS).length := by rw [List.length_map]; exact hlt
      have hjG : n < G.length := by omega
      have l1 := (hsN.below hB.out).cx n hjm
      have l2 := (hsN.below hB.out).cy n hjm
      have l3 := (hsN.below hB.out).cf n hjm
      have l4 := (hsN.below hB.out).lt
      rw [List.getElem_map] at l1 l2 l3
      have m1 := (hsG.below hB.out).c n hjG
      have m2 := (hsG.below hB.out).lt
      obtain ⟨r0, r1, r2⟩ := hcp.out _ hB.out
      have hst : totN N G (n + 1) = totN N G n + (if G[n] = true then 0 else N[n]) := by
        show totN N G n + _ = _
        rw [List.getD_eq_getElem?_getD, List.getElem?_eq_getElem hjG, List.getD_eq_getElem?_getD, List.getElem?_eq_getElem hlt]; rfl
      have oA := qS_ok N[n]
      have oS := qS_ok (totN N G n)
      have hsum : Hid (sSum (qS (totN N G n)) (qS N[n]) = qS (totN N G n + N[n])) := Lib.hid (qS_add _ _)
      replace hst := Lib.hid hst
      clear hsN hsG hNs hGs
      generalize N[n] = a at *
      generalize G[n] = gn at *
      generalize qS a = A at *
      obtain ⟨o0', o1', o2', of0, of1, of2, ol⟩ := ho.out
      cases gn
      · obtain ⟨D, hD⟩ : ∃ D, qS (totN N G n + a) = D := ⟨_, rfl⟩
        rw [hD] at hsum
        replace hD := Lib.hid hD
        generalize qS (totN N G n) = S at *
        go_wp2_with fail
        refine (sum_e S A D _ (hF'.out.below (balloc hB.out _)) oS oA hsum).mono ?_; rintro e w2 ⟨rfl, hb2⟩
        have hr2 := (hr.out.alloc _).below hb2
        have ho2 := (ho.out.alloc _).below hb2
        have ho2' := Lib.hid ho2
        have hB2 := Lib.hid (below_seq (balloc hB.out _) hb2)
        clear l1 l2 l3 l4 m1 m2 r0 r1 r2 o0' o1' o2' of0 of1 of2 ol hb2
        obtain ⟨o0', o1', o2', of0, of1, of2, ol⟩ := ho2
        go_wp2
        go_roundw
        case rel => exact ⟨n + 1, by omega, by go_num, hr2.set3o (by omega) _ _ _, by rw [hst.out, if_neg (by simp), hD.out]; exact ho2'.out.set3 _, set3_below hB2.out (by omega)⟩
        case measure => simp [intOf]; omega
      · go_wp2
        go_roundw
        case rel => exact ⟨n + 1, by omega, by go_num, hr.out.alloc _, by rw [hst.out, if_pos rfl, Int.add_zero]; exact ho.out.alloc _, balloc hB.out _⟩
        case measure => simp [intOf]; omega
    · obtain rfl : n = N.length := by omega
      obtain ⟨k0, k1, k2, kf0, kf1, kf2, kl⟩ := hr.out
      obtain ⟨o0', o1', o2', of0, of1, of2, ol⟩ := ho.out
      generalize hDe : qS (totN N G N.length) = D at *
      replace hDe := Lib.hid hDe
      go_wp2
      have kk' := set3_cell (w := wr) (x := .int .i64 D.x) (y := .int .i64 D.y) (z := .bool D.far) k0 k1 k2
      refine bodyPost_ret (v := spV D) (by simp [results, Tryz.results24, go_sem, kk'.1, kk'.2.1, kk'.2.2]) rfl ⟨by rw [hDe.out], set3_below hB.out (Nat.le_refl _)⟩
/-- The places of the first k that are not gone. -/
def liveN (G : List Bool) : Nat → List Int
  | 0 => []
  | k + 1 => liveN G k ++ (if G.getD k true = true then [] else [(k : Int)])
theorem liveN_len (G : List Bool) : ∀ k, (liveN G k).length ≤ k
  | 0 => Nat.le_refl _
  | k + 1 => by have := liveN_len G k; unfold liveN; rw [List.length_append]; split <;> simp <;> omega
set_option maxHeartbeats 8000000 in
theorem blive_c (N : List Int) (G : List Bool) (B p : Nat) (w : World) (hBk : BkAt w B p N G) (hN : N.length ≤ 1000000) :
    Calls Tryz.prog 56 #[.pointer (some ⟨p, 0, none⟩)] w fun e w' => ∃ v', e = .returned v' ∧ w'.ownsRow w.heap.size 3 1 v' (liveN G N.length).length ((liveN G N.length).map (Value.int .i64)) ∧ Below w.heap.size w w' := by
  obtain ⟨vc, vg, hBk⟩ := hBk
  obtain ⟨ag, cg, rfl⟩ := own_slB hBk.rg
  have hGs : 0 < N.length → ∃ b o, ag = some ⟨b, o, none⟩ ∧ BolsAt w b o G := fun h => by
    obtain ⟨a, c, e, hs⟩ := hBk.bo
    simp only [Value.slice.injEq] at e
    obtain ⟨rfl, -, -⟩ := e
    exact hs (by rw [hBk.ln]; exact h)
  have hGl := hBk.ln
  have p1 := hBk.c1
  have hp := hBk.lt
  clear hBk
  replace hGs := Lib.hid hGs
  go_enter Tryz.func56, Tryz.ntmps56
  go_wp2
  clear p1
  go_loopw [3, 11] (fun v i wr => ∃ n : Nat, n ≤ N.length ∧ i = .int .i64 n ∧ wr.ownsRow w.heap.size 3 1 v (liveN G n).length ((liveN G n).map (Value.int .i64)) ∧ Below w.heap.size w wr) (fun _ i _ => N.length - (intOf i).toNat)
  case atStart => exact ⟨0, Nat.zero_le _, rfl, World.ownsRow_nil _ _ _ _, Below.refl _ _⟩
  case round =>
    obtain ⟨n, hn, rfl, hown, hB⟩ := hrel
    replace hown := Lib.hid hown
    replace hB := Lib.hid hB
    by_cases hlt : n < N.length
    · obtain ⟨bg, og, rfl, hsG⟩ := hGs.out (by omega)
      have hjG : n < G.length := by omega
      have m1 := (hsG.below hB.out).c n hjG
      have m2 := (hsG.below hB.out).lt
      have hz := hB.out.size
      have hll := liveN_len G n
      have hst : Hid (liveN G (n + 1) = liveN G n ++ (if G[n] = true then [] else [(n : Int)])) := by
        show _ = _
        show liveN G n ++ _ = _
        rw [List.getD_eq_getElem?_getD, List.getElem?_eq_getElem hjG]; rfl
      clear hsG hGs
      generalize G[n] = gn at *
      cases gn
      · rw [if_neg (by simp)] at hst
        go_wp2_with (first | (at_builtin; refine wpl_append_int rfl _ _ _ rfl (by kernel_rfl) w.heap.size _ (liveN G n) (liveN G n).length rfl (hown.out.alloc _) rfl (by omega) (by simp only [World.size_alloc]; omega) wr.heap.size (n : Int) rfl (by go_simp) ?_; intro v1 w7 hown' hgrow hbel hloc; replace hown' := Lib.hid hown'; replace hbel := Lib.hid (hbel w (balloc hB.out _)); clear hgrow hloc) | fail)
        go_wp2
        go_roundw
        case rel => exact ⟨n + 1, by omega, by go_num, by rw [hst.out, List.length_append]; exact hown'.out, hbel.out⟩
        case measure => simp [intOf]; omega
      · rw [if_pos rfl, List.append_nil] at hst
        go_wp2
        go_roundw
        case rel => exact ⟨n + 1, by omega, by go_num, by rw [hst.out]; exact hown.out, hB.out⟩
        case measure => simp [intOf]; omega
    · obtain rfl : n = N.length := by omega
      go_wp2
      go_ret
      exact ⟨_, rfl, hown.out, hB.out⟩
end Go.Proofs.YtjjmelhhalomaaaGreatDoor
namespace Go.Proofs.YtjjmelhhalomaaaGreatDoor
open Go.RowKit
set_option maxRecDepth 100000
set_option linter.unusedVariables false
set_option linter.unusedSimpArgs false
theorem mod_off (a b t : Int) (h : a - b = 4052 * t) : a % 4052 = b % 4052 := by omega
theorem close_nums (h k c r q1 q2 m b : Int) (e1 : k + c * b = 1013 * q1 + m) (e2 : r = 1013 * q2 + b) : 4 * h * m - (4 * h * k + 4 * (h * r) * c) = 4052 * (-(h * q1) - h * q2 * c) := by
  have e3 : m = k + c * b - 1013 * q1 := by omega
  subst e3
  subst e2
  grind
theorem close_ok (k c r x : Int) (hx : (x - hJ * r) % 1013 = 0) : Sp.beq (sq (4 * hJ * ((k + c * (r % 1013)) % 1013))) (sSum (sq (4 * hJ * k)) (sq (4 * x * c))) = true := by
  have h1 : sq (4 * x * c) = sq (4 * (hJ * r) * c) := by
    refine sq_eq_iff.mpr ?_
    obtain ⟨t, ht⟩ : ∃ t, x - hJ * r = 1013 * t := ⟨(x - hJ * r) / 1013, by omega⟩
    refine mod_off _ _ (t * c) ?_
    have : x = hJ * r + 1013 * t := by omega
    rw [this]
    grind
  rw [h1, sq_add]
  have h2 : sq (4 * hJ * ((k + c * (r % 1013)) % 1013)) = sq (4 * hJ * k + 4 * (hJ * r) * c) := by
    refine sq_eq_iff.mpr (mod_off _ _ _ (close_nums hJ k c r ((k + c * (r % 1013)) / 1013) (r / 1013) _ (r % 1013) ?_ ?_))
    · omega
    · omega
  rw [h2]
  exact Sp.beq_refl _
end Go.Proofs.YtjjmelhhalomaaaGreatDoor
namespace Go.Proofs.YtjjmelhhalomaaaGreatDoor
abbrev Q := Fin 1013
def qE : Nat := 1011
def qinv (a : Q) : Q := ⟨a.val ^ qE % 1013, Nat.mod_lt _ (by decide)⟩
def qchk : Nat → Bool
  | 0 => true
  | k+1 => (k == 0 || (k * (k ^ qE % 1013) % 1013 == 1)) && qchk k
theorem qchk_ok : qchk 1013 = true := by decide +kernel
theorem qchk_at : ∀ n, qchk n = true → ∀ k, k < n → k ≠ 0 → k * (k ^ qE % 1013) % 1013 = 1
  | 0, _, _, hk, _ => absurd hk (Nat.not_lt_zero _)
  | n+1, h, k, hk, h0 => by
    simp only [qchk, Bool.and_eq_true, Bool.or_eq_true, beq_iff_eq] at h
    rcases Nat.lt_succ_iff_lt_or_eq.mp hk with h1 | h1
    · exact qchk_at n h.2 k h1 h0
    · subst h1; rcases h.1 with h2 | h2
      · exact absurd h2 h0
      · exact h2
theorem qmul_inv {a : Q} (h : a ≠ 0) : a * qinv a = 1 := by
  apply Fin.ext
  have := qchk_at 1013 qchk_ok a.val a.isLt (fun e => h (Fin.ext e))
  simpa [Fin.mul_def, qinv] using this
theorem qzero_or {a b : Q} (h : a * b = 0) : a = 0 ∨ b = 0 := by
  by_cases ha : a = 0
  · exact .inl ha
  · right; have h1 := qmul_inv ha
    have : qinv a * (a * b) = qinv a * 0 := by rw [h]
    grobner
theorem qcancel {a b c : Q} (hc : c ≠ 0) (h : c * a = c * b) : a = b := by
  have h1 := qmul_inv hc
  have : qinv c * (c * a) = qinv c * (c * b) := by rw [h]
  grobner
def qi (z : Int) : Q := ⟨(z % 1013).toNat, by omega⟩
theorem qi_val (z : Int) : ((qi z).val : Int) = z % 1013 := by simp only [qi]; omega
theorem qi_eq {a b : Int} : qi a = qi b ↔ a % 1013 = b % 1013 := by
  constructor
  · intro h; have := congrArg (fun x : Q => (x.val : Int)) h; simpa only [qi_val] using this
  · intro h; simp only [qi, h]
theorem qi_ext {a : Q} {z : Int} (h : (a.val : Int) = z % 1013) : a = qi z := by
  apply Fin.ext; have := qi_val z; omega
theorem qi_mod (z : Int) : qi (z % 1013) = qi z := qi_eq.mpr (by omega)
theorem qi_add (a b : Int) : qi (a + b) = qi a + qi b := by
  symm; apply qi_ext; rw [Fin.val_add]; have ha := qi_val a; have hb := qi_val b; omega
theorem qi_mul (a b : Int) : qi (a * b) = qi a * qi b := by
  symm; apply qi_ext; rw [Fin.val_mul]; have ha := qi_val a; have hb := qi_val b
  rw [Int.mul_emod, ← ha, ← hb]; simp
theorem qi_zero : qi 0 = 0 := rfl
theorem qi_one : qi 1 = 1 := rfl
theorem qi_neg (a : Int) : qi (-a) = - qi a := by
  have : qi (-a + a) = qi (-a) + qi a := qi_add _ _
  rw [show -a + a = 0 by omega, qi_zero] at this; grobner
theorem qi_sub (a b : Int) : qi (a - b) = qi a - qi b := by
  have := qi_add a (-b); rw [qi_neg] at this; rw [show a - b = a + -b by omega, this]; grobner
theorem qi_pow (a : Int) : ∀ n : Nat, qi (a ^ n) = qi a ^ n
  | 0 => by simp [qi_one]
  | n+1 => by rw [Int.pow_succ, qi_mul, qi_pow a n]; grobner
theorem qval_pow (a : Q) : ∀ n : Nat, (a ^ n).val = a.val ^ n % 1013
  | 0 => rfl
  | n+1 => by
    have : a ^ (n+1) = a ^ n * a := by grobner
    rw [this, Fin.val_mul, qval_pow a n, Nat.pow_succ, Nat.mod_mul_mod]
theorem qpowv (a : Q) (n : Nat) (h : a.val ^ n % 1013 < 1013) : (⟨a.val ^ n % 1013, h⟩ : Q) = a ^ n := Fin.ext (qval_pow a n).symm
theorem qinv_pow (a : Q) : qinv a = a ^ qE := qpowv a qE _
theorem qi_inj {a b : Int} (ha : 0 ≤ a ∧ a < 1013) (hb : 0 ≤ b ∧ b < 1013) (h : qi a = qi b) : a = b := by have := qi_eq.mp h; omega
theorem qi_ne {a : Int} (h1 : 1 ≤ a) (h2 : a < 1013) : qi a ≠ 0 := fun h => by
  have := qi_inj (by omega) (by omega) (h.trans qi_zero.symm); omega

/-- The weight of a place x among some. -/
def wt (x : Q) : List Q → Q
  | [] => 1
  | y :: l => if y = x then wt x l else y * qinv (y - x) * wt x l
def qsum (f : Q → Q) : List Q → Q
  | [] => 0
  | y :: l => f y + qsum f l
/-- What values, times the weights, add up to. -/
def lag (xs : List Q) (f : Q → Q) : Q := qsum (fun x => wt x xs * f x) xs
/-- A polynomial's value: the coefficient of the power 0 first. -/
def ev : List Q → Q → Q
  | [], _ => 0
  | c :: l, t => c + t * ev l t
/-- The quotient by (t - r). -/
def quo (r : Q) : List Q → List Q
  | [] => []
  | _ :: l => match l with
    | [] => []
    | _ => ev l r :: quo r l
theorem qsum_congr {f g : Q → Q} : ∀ {l : List Q}, (∀ x ∈ l, f x = g x) → qsum f l = qsum g l
  | [], _ => rfl
  | y :: l, h => by
    simp only [qsum]; rw [h y (by simp), qsum_congr fun x hx => h x (by simp [hx])]
theorem qsum_add (f g : Q → Q) : ∀ l : List Q, qsum (fun x => f x + g x) l = qsum f l + qsum g l
  | [] => by simp only [qsum]; grobner
  | y :: l => by simp only [qsum]; rw [qsum_add f g l]; grobner
theorem qsum_mul (c : Q) (f : Q → Q) : ∀ l : List Q, qsum (fun x => c * f x) l = c * qsum f l
  | [] => by simp only [qsum]; grobner
  | y :: l => by simp only [qsum]; rw [qsum_mul c f l]; grobner
theorem lag_add (xs : List Q) (f g : Q → Q) : lag xs (fun x => f x + g x) = lag xs f + lag xs g := by
  unfold lag; rw [← qsum_add]; exact qsum_congr fun x _ => by grobner
theorem lag_mul (xs : List Q) (c : Q) (f : Q → Q) : lag xs (fun x => c * f x) = c * lag xs f := by
  unfold lag; rw [← qsum_mul]; exact qsum_congr fun x _ => by grobner
theorem lag_congr {xs : List Q} {f g : Q → Q} (h : ∀ x ∈ xs, f x = g x) : lag xs f = lag xs g :=
  qsum_congr fun x hx => by rw [h x hx]
/-- The first place out. -/
theorem lag_out {x1 : Q} {xs : List Q} (h1 : x1 ∉ xs) (f : Q → Q) : lag (x1 :: xs) (fun x => (x - x1) * f x) = - x1 * lag xs f := by
  unfold lag
  rw [← qsum_mul]
  simp only [qsum]
  rw [show wt x1 (x1 :: xs) * ((x1 - x1) * f x1) = 0 by grobner]
  have : qsum (fun x => wt x (x1 :: xs) * ((x - x1) * f x)) xs = qsum (fun x => -x1 * (wt x xs * f x)) xs := by
    apply qsum_congr
    intro x hx
    have hne : x1 ≠ x := fun e => h1 (e ▸ hx)
    have e : wt x (x1 :: xs) = x1 * qinv (x1 - x) * wt x xs := by simp only [wt]; rw [if_neg hne]
    have hd : x1 - x ≠ 0 := fun e => hne (by grobner)
    have k := qmul_inv hd
    rw [e]
    generalize qinv (x1 - x) = i at *
    clear e hd hne hx h1
    grobner
  rw [this]; grobner
theorem wt_swap (x a b : Q) (l : List Q) : wt x (a :: b :: l) = wt x (b :: a :: l) := by
  simp only [wt]; split <;> split <;> grobner
theorem lag_swap (a b : Q) (l : List Q) (f : Q → Q) : lag (a :: b :: l) f = lag (b :: a :: l) f := by
  unfold lag
  have : qsum (fun x => wt x (a :: b :: l) * f x) (a :: b :: l) = qsum (fun x => wt x (b :: a :: l) * f x) (a :: b :: l) := qsum_congr fun x _ => by rw [wt_swap]
  rw [this]; simp only [qsum]; grobner
theorem lag_one : ∀ (n : Nat) (xs : List Q), xs.length = n + 1 → xs.Nodup → lag xs (fun _ => 1) = 1
  | 0, xs, hl, _ => by
    match xs, hl with
    | [a], _ => simp only [lag, qsum, wt, if_true]; grobner
  | n+1, xs, hl, hd => by
    match xs, hl with
    | a :: b :: l, hl =>
      have hab : a ∉ b :: l := (List.nodup_cons.mp hd).1
      have hd2 : (b :: a :: l).Nodup := by
        have := (List.nodup_cons.mp hd).2
        have := (List.nodup_cons.mp this)
        simp only [List.mem_cons, not_or] at hab
        refine List.nodup_cons.mpr ⟨?_, List.nodup_cons.mpr ⟨hab.2, this.2⟩⟩
        simp only [List.mem_cons, not_or]; exact ⟨fun e => hab.1 e.symm, this.1⟩
      have i1 := lag_one n (b :: l) (by simpa using hl) (List.nodup_cons.mp hd).2
      have i2 := lag_one n (a :: l) (by simpa using hl) (List.nodup_cons.mp hd2).2
      have o1 := lag_out hab (fun _ => 1)
      have o2 := lag_out (List.nodup_cons.mp hd2).1 (fun _ => 1)
      rw [i1] at o1; rw [i2, lag_swap] at o2
      have d : lag (a :: b :: l) (fun _ => (b - a) * 1) = (b - a) * 1 := by
        have e : lag (a :: b :: l) (fun _ => (b - a) * 1) = lag (a :: b :: l) (fun x => (x - a) * 1 + (-1) * ((x - b) * 1)) := lag_congr fun x _ => by grobner
        rw [e, lag_add, lag_mul, o1, o2]; grobner
      rw [lag_mul] at d
      refine qcancel (fun e => ?_) d
      exact hab (by have : a = b := by grobner
                    rw [this]; simp)
theorem ev_quo (r t : Q) : ∀ p : List Q, ev p t = ev p r + (t - r) * ev (quo r p) t
  | [] => by simp only [ev, quo]; grobner
  | [c] => by simp only [ev, quo]; grobner
  | c :: d :: l => by
    have ih := ev_quo r t (d :: l)
    show c + t * ev (d :: l) t = c + r * ev (d :: l) r + (t - r) * (ev (d :: l) r + t * ev (quo r (d :: l)) t)
    generalize ev (d :: l) t = A at *
    generalize ev (d :: l) r = B at *
    generalize ev (quo r (d :: l)) t = C at *
    subst ih; grobner
theorem quo_len (r : Q) : ∀ p : List Q, (quo r p).length = p.length - 1
  | [] => rfl
  | [_] => rfl
  | _ :: d :: l => by
    have := quo_len r (d :: l)
    show (quo r (d :: l)).length + 1 = _
    rw [this]; simp
/-- Any so many of them tell it (Lagrange, Shamir): of a polynomial of no more coefficients than places the values tell its value at 0. -/
theorem lag_ev : ∀ (xs : List Q) (p : List Q), xs ≠ [] → xs.Nodup → p.length ≤ xs.length → lag xs (ev p) = ev p 0
  | [], _, h, _, _ => absurd rfl h
  | [a], p, _, _, hp => by
    match p, hp with
    | [], _ => simp only [lag, qsum, wt, ev, if_true]; grobner
    | [c], _ => simp only [lag, qsum, wt, ev, if_true]; grobner
  | a :: b :: l, p, _, hd, hp => by
    have ih := lag_ev (b :: l) (quo a p) (by simp) (List.nodup_cons.mp hd).2 (by rw [quo_len]; simp only [List.length_cons] at hp ⊢; omega)
    have e : lag (a :: b :: l) (ev p) = lag (a :: b :: l) (fun x => ev p a * 1 + (x - a) * ev (quo a p) x) := lag_congr fun x _ => by
      rw [ev_quo a x p]; grobner
    rw [e, lag_add, lag_mul, lag_one (l.length + 1) _ (by simp) hd, lag_out (List.nodup_cons.mp hd).1, ih, ev_quo a 0 p]; grobner
end Go.Proofs.YtjjmelhhalomaaaGreatDoor
namespace Go.Proofs.YtjjmelhhalomaaaGreatDoor
theorem q_solve {h : Int} (d : Int) (h1 : 1 ≤ h) (h2 : h < 1013) : ∃ n : Int, 0 ≤ n ∧ n < 1013 ∧ (h * n) % 1013 = d % 1013 := by
  have hi := qmul_inv (qi_ne h1 h2)
  refine ⟨((qinv (qi h) * qi d).val : Int), by omega, by have := (qinv (qi h) * qi d).isLt; omega, ?_⟩
  apply qi_eq.mp
  have e : qi ((qinv (qi h) * qi d).val : Int) = qinv (qi h) * qi d := by
    symm; apply qi_ext; have := (qinv (qi h) * qi d).isLt; omega
  rw [qi_mul, e]
  generalize qinv (qi h) = i at *
  have : qi h * (i * qi d) = (qi h * i) * qi d := by grobner
  rw [this, hi]; grobner
theorem q_inj {h n m : Int} (h1 : 1 ≤ h) (h2 : h < 1013) (e : (h * n) % 1013 = (h * m) % 1013) : n % 1013 = m % 1013 := by
  have := qi_eq.mpr e
  rw [qi_mul, qi_mul] at this
  exact qi_eq.mp (qcancel (qi_ne h1 h2) this)
end Go.Proofs.YtjjmelhhalomaaaGreatDoor
namespace Go.Proofs.YtjjmelhhalomaaaGreatDoor
open Go.RowKit
set_option maxRecDepth 100000
set_option linter.unusedVariables false
set_option linter.unusedSimpArgs false
theorem getD_set_ne (G : List Bool) (a b : Nat) (h : a ≠ b) : (G.set a true).getD b true = G.getD b true := by
  rw [List.getD_eq_getElem?_getD, List.getD_eq_getElem?_getD, List.getElem?_set_ne h]
theorem getD_set_eq (G : List Bool) (a : Nat) : (G.set a true).getD a true = true := by
  rw [List.getD_eq_getElem?_getD]
  by_cases h : a < G.length
  · rw [List.getElem?_set_self h]; rfl
  · rw [List.getElem?_eq_none (by rw [List.length_set]; omega)]; rfl
theorem totN_set (N : List Int) (G : List Bool) (g : Nat) (hg : G.getD g true = false) : ∀ k, totN N (G.set g true) k = totN N G k - (if g < k then N.getD g 0 else 0)
  | 0 => by simp [totN]
  | k + 1 => by
    unfold totN
    rw [totN_set N G g hg k]
    by_cases e : g = k
    · subst e
      rw [getD_set_eq, hg, if_neg (Nat.lt_irrefl _), if_pos (Nat.lt_succ_self _)]
      simp
    · rw [getD_set_ne G g k e]
      by_cases h : g < k
      · rw [if_pos h, if_pos (show g < k + 1 by omega)]; omega
      · rw [if_neg h, if_neg (show ¬ g < k + 1 by omega)]; omega
theorem liveN_set (G : List Bool) (g : Nat) (hg : G.getD g true = false) : ∀ k, (liveN (G.set g true) k).length + (if g < k then 1 else 0) = (liveN G k).length
  | 0 => by simp [liveN]
  | k + 1 => by
    have ih := liveN_set G g hg k
    unfold liveN
    rw [List.length_append, List.length_append]
    by_cases e : g = k
    · subst e
      rw [getD_set_eq, hg, if_pos (Nat.lt_succ_self _)]
      rw [if_neg (Nat.lt_irrefl _)] at ih
      simp; omega
    · rw [getD_set_ne G g k e]
      by_cases h : g < k
      · rw [if_pos h] at ih; rw [if_pos (show g < k + 1 by omega)]; omega
      · rw [if_neg h] at ih; rw [if_neg (show ¬ g < k + 1 by omega)]; omega
/-- Numbers as they go. -/
def nI (ps : List Nat) : List Int := ps.map fun (p : Nat) => (p : Int)
theorem nI_len (ps : List Nat) : (nI ps).length = ps.length := List.length_map _
theorem goneL_cons (G : List Bool) (p : Nat) (ps : List Nat) : goneL G (nI (p :: ps)) = goneL (G.set p true) (nI ps) := rfl
theorem outN_cons (N : List Int) (p : Nat) (ps : List Nat) : outN N (nI (p :: ps)) = -(N.getD p 0) + outN N (nI ps) := by
  unfold outN nI; simp only [List.map_cons, List.sum_cons, Int.toNat_natCast]; omega
theorem goneL_getD (G : List Bool) : ∀ (ps : List Nat) (q : Nat), (goneL G (nI ps)).getD q true = if q ∈ ps then true else G.getD q true := by
  intro ps
  induction ps generalizing G with
  | nil => intro q; simp [goneL, nI]
  | cons p ps ih =>
    intro q
    rw [goneL_cons, ih]
    by_cases h : q ∈ ps
    · rw [if_pos h, if_pos (List.mem_cons_of_mem _ h)]
    · rw [if_neg h]
      by_cases e : q = p
      · subst e; rw [getD_set_eq, if_pos List.mem_cons_self]
      · rw [getD_set_ne G p q (fun x => e x.symm), if_neg (by simp [e, h])]
theorem totN_gone (N : List Int) (k : Nat) : ∀ (ps : List Nat) (G : List Bool), ps.Nodup → (∀ p ∈ ps, p < k ∧ G.getD p true = false) → totN N (goneL G (nI ps)) k = totN N G k + outN N (nI ps)
  | [], G, _, _ => by simp [goneL, nI, outN]
  | p :: ps, G, hn, h => by
    obtain ⟨h1, h2⟩ := List.nodup_cons.mp hn
    obtain ⟨hp, hg⟩ := h p List.mem_cons_self
    rw [goneL_cons, outN_cons, totN_gone N k ps _ h2 (fun q hq => ⟨(h q (List.mem_cons_of_mem _ hq)).1, by rw [getD_set_ne G p q (fun e => h1 (e ▸ hq))]; exact (h q (List.mem_cons_of_mem _ hq)).2⟩), totN_set N G p hg k, if_pos hp]
    omega
theorem liveN_gone (k : Nat) : ∀ (ps : List Nat) (G : List Bool), ps.Nodup → (∀ p ∈ ps, p < k ∧ G.getD p true = false) → (liveN (goneL G (nI ps)) k).length + ps.length = (liveN G k).length
  | [], G, _, _ => by simp [goneL, nI]
  | p :: ps, G, hn, h => by
    obtain ⟨h1, h2⟩ := List.nodup_cons.mp hn
    obtain ⟨hp, hg⟩ := h p List.mem_cons_self
    have := liveN_gone k ps (G.set p true) h2 (fun q hq => ⟨(h q (List.mem_cons_of_mem _ hq)).1, by rw [getD_set_ne G p q (fun e => h1 (e ▸ hq))]; exact (h q (List.mem_cons_of_mem _ hq)).2⟩)
    have h3 := liveN_set G p hg k
    rw [if_pos hp] at h3
    rw [goneL_cons, List.length_cons]
    omega
theorem getD_app_lo {α : Type} (l m : List α) (d : α) (k : Nat) (h : k < l.length) : (l ++ m).getD k d = l.getD k d := by
  rw [List.getD_eq_getElem?_getD, List.getD_eq_getElem?_getD, List.getElem?_append_left h]
theorem getD_app_hi {α : Type} (l m : List α) (d : α) (k : Nat) : (l ++ m).getD (l.length + k) d = m.getD k d := by
  rw [List.getD_eq_getElem?_getD, List.getD_eq_getElem?_getD, List.getElem?_append_right (by omega), Nat.add_sub_cancel_left]
theorem totN_lo (N M : List Int) (G H : List Bool) (hG : G.length = N.length) : ∀ k, k ≤ N.length → totN (N ++ M) (G ++ H) k = totN N G k
  | 0, _ => rfl
  | k + 1, h => by
    unfold totN
    rw [totN_lo N M G H hG k (by omega), getD_app_lo N M 0 k (by omega), getD_app_lo G H true k (by omega)]
theorem totN_hi (N M : List Int) (G : List Bool) (hG : G.length = N.length) : ∀ j, j ≤ M.length → totN (N ++ M) (G ++ List.replicate M.length false) (N.length + j) = totN N G N.length + (M.take j).sum
  | 0, _ => by simp [totN_lo N M G _ hG]
  | j + 1, h => by
    show totN _ _ (N.length + j) + (if (G ++ List.replicate M.length false).getD (N.length + j) true = true then 0 else (N ++ M).getD (N.length + j) 0) = _
    rw [totN_hi N M G hG j (by omega), getD_app_hi N M 0 j]
    have e : (G ++ List.replicate M.length false).getD (N.length + j) true = false := by
      rw [← hG, getD_app_hi, List.getD_eq_getElem?_getD, List.getElem?_replicate_of_lt (by omega)]; rfl
    rw [e, if_neg (by simp), sumB_snoc M j (by omega), List.getD_eq_getElem?_getD, List.getElem?_eq_getElem (by omega)]
    simp only [Option.getD_some]
    omega
theorem liveN_lo (G H : List Bool) : ∀ k, k ≤ G.length → liveN (G ++ H) k = liveN G k
  | 0, _ => rfl
  | k + 1, h => by unfold liveN; rw [liveN_lo G H k (by omega), getD_app_lo G H true k (by omega)]
theorem liveN_hi (G : List Bool) (m : Nat) : ∀ j, j ≤ m → (liveN (G ++ List.replicate m false) (G.length + j)).length = (liveN G G.length).length + j
  | 0, _ => by simp [liveN_lo]
  | j + 1, h => by
    have e : (G ++ List.replicate m false).getD (G.length + j) true = false := by
      rw [getD_app_hi, List.getD_eq_getElem?_getD, List.getElem?_replicate_of_lt (by omega)]; rfl
    show (liveN _ (G.length + j) ++ (if (G ++ List.replicate m false).getD (G.length + j) true = true then [] else [((G.length + j : Nat) : Int)])).length = _
    rw [List.length_append, liveN_hi G m j (by omega), e, if_neg (by simp)]
    simp; omega
/-- Behind a deal: the sum of what is live, and how many are. -/
theorem deal_tot (N M : List Int) (G : List Bool) (ps : List Nat) (hG : G.length = N.length) (hn : ps.Nodup) (h : ∀ p ∈ ps, p < N.length ∧ G.getD p true = false) :
    totN (N ++ M) (goneL G (nI ps) ++ List.replicate M.length false) (N ++ M).length = totN N G N.length + (outN N (nI ps) + M.sum) ∧ (liveN (goneL G (nI ps) ++ List.replicate M.length false) (N ++ M).length).length + ps.length = (liveN G N.length).length + M.length := by
  have hl : (goneL G (nI ps)).length = N.length := by rw [goneL_len, hG]
  rw [List.length_append]
  constructor
  · rw [totN_hi N M _ hl M.length (Nat.le_refl _), totN_gone N N.length ps G hn h, List.take_length]; omega
  · have := liveN_hi (goneL G (nI ps)) M.length M.length (Nat.le_refl _)
    rw [hl] at this
    rw [this, ← liveN_gone N.length ps G hn h]; omega
theorem getD_fresh (n p : Nat) (h : p < n) : (List.replicate n false).getD p true = false := by
  rw [List.getD_eq_getElem?_getD, List.getElem?_replicate_of_lt h]; rfl
theorem liveN_fresh (n : Nat) : ∀ k, k ≤ n → (liveN (List.replicate n false) k).length = k
  | 0, _ => rfl
  | k + 1, h => by
    show (liveN _ k ++ (if (List.replicate n false).getD k true = true then [] else [(k : Int)])).length = _
    rw [List.length_append, liveN_fresh n k (by omega), getD_fresh n k (by omega), if_neg (by simp)]; rfl
/-- When what is sealed by what is left between closes. -/
theorem close_is (k c r v : Int) (c0 : 0 ≤ c) (c1 : c < 1013) : Sp.beq (sq (4 * hJ * ((k + c * (r % 1013)) % 1013))) (sSum (sq (4 * hJ * k)) (sq (4 * (v + hJ * r) * c))) = decide (v % 1013 = 0 ∨ c = 0) := by
  rw [sq_add]
  have h2 : sq (4 * hJ * ((k + c * (r % 1013)) % 1013)) = sq (4 * hJ * k + 4 * (hJ * r) * c) := by
    refine sq_eq_iff.mpr (mod_off _ _ _ (close_nums hJ k c r ((k + c * (r % 1013)) / 1013) (r / 1013) _ (r % 1013) ?_ ?_))
    · omega
    · omega
  rw [h2]
  have e : 4 * hJ * k + 4 * (v + hJ * r) * c - (4 * hJ * k + 4 * (hJ * r) * c) = 4 * (c * v) := by grind
  have key : (sq (4 * hJ * k + 4 * (hJ * r) * c) = sq (4 * hJ * k + 4 * (v + hJ * r) * c)) ↔ (v % 1013 = 0 ∨ c = 0) := by
    rw [sq_eq_iff]
    constructor
    · intro h
      by_cases hc : c = 0
      · exact .inr hc
      · have h3 : (c * v) % 1013 = 0 := by omega
        have h4 := q_inj (h := c) (n := v) (m := 0) (by omega) c1 (by rw [Int.mul_zero]; exact h3)
        exact .inl h4
    · intro h
      have h3 : (c * v) % 1013 = 0 := by
        rcases h with h | h
        · rw [Int.mul_emod, h]; simp
        · rw [h]; simp
      omega
  by_cases h : v % 1013 = 0 ∨ c = 0
  · rw [decide_eq_true h]; exact Sp.beq_iff.mpr (key.mpr h)
  · rw [decide_eq_false h]; exact Sp.beq_ne fun e => h (key.mp e)
end Go.Proofs.YtjjmelhhalomaaaGreatDoor
namespace Go.Proofs.YtjjmelhhalomaaaGreatDoor
open Go.RowKit
set_option maxRecDepth 100000
set_option linter.unusedVariables false
set_option linter.unusedSimpArgs false
theorem bnew_nil (w : World) (hF : FarAt w) : Calls Tryz.prog 15 #[.slice none 0 0] w fun e w' => ∃ p, e = .returned (.tuple #[.pointer (some ⟨p, 0, none⟩), .nilIface]) ∧ BkAt w' w.heap.size p [] [] ∧ Below w.heap.size w w' :=
  bnew_y [] none 0 w (by decide) hF (fun h => absurd h (by decide))
theorem bcheck_no (w : World) (hF : FarAt w) : Calls Tryz.prog 44 #[.slice none 0 0] w fun e w' => e = .returned .nilIface ∧ Below w.heap.size w w' :=
  bcheck_core [] 0 .nilIface _ 0 w hF (by decide) (fun h => absurd h (by decide)) (Lib.hid fun k h _ => absurd h (Nat.not_lt_zero _)) (by decide) (Lib.hid fun h => absurd h (by decide)) (Lib.hid fun h => absurd h (by decide)) (Lib.hid fun _ => rfl)
theorem bex_nil (N : List Int) (G : List Bool) (B p : Nat) (w : World) (hF : FarAt w) (hBk : BkAt w B p N G) (hNl : N.length ≤ 1000000) :
    Calls Tryz.prog 17 #[.pointer (some ⟨p, 0, none⟩), .slice none 0 0, .slice none 0 0] w fun e w' => e = .returned (.tuple #[spV ⟨0, 0, true⟩, .nilIface]) ∧ Below w.heap.size w w' :=
  bex_core N G B p [] [] none none 0 0 0 0 .nilIface _ w hF hBk hNl (by decide) (by decide) (by decide) (fun h => absurd h (by decide)) (fun h => absurd h (by decide)) (by decide) (by decide) (fun i h => absurd h (Nat.not_lt_zero _)) (fun h => absurd h (by decide)) (Lib.hid fun w1 hb => bcheck_no w1 (hF.below hb)) (Lib.hid fun h => absurd h (by decide)) (Lib.hid fun _ => .inr ⟨rfl, [], rfl, by rw [show outN N [] + ([] : List Int).sum = 0 from rfl, qS_zero]⟩)
/-- A deal of nothing is done. -/
theorem bdo_nil (N : List Int) (G : List Bool) (B p : Nat) (P : Sp) (w : World) (hF : FarAt w) (hBk : BkAt w B p N G) (hB0 : B ≤ w.heap.size) (hNl : N.length ≤ 1000) (hP : Hid (sq (4 * hJ * 1) = P)) :
    Calls Tryz.prog 20 #[.pointer (some ⟨p, 0, none⟩), dlV (.slice none 0 0) (.slice none 0 0) P 1] w fun e w' => e = .returned .nilIface ∧ BkAt w' B p N G ∧ Below B w w' := by
  obtain ⟨vc, vg, hv⟩ := hBk
  have hq : Sp.beq (sq (4 * hJ * 1)) (sSum P (sq (4 * 0 * bAsk P ⟨0, 0, true⟩))) = true := by
    have := close_ok 1 (bAsk P ⟨0, 0, true⟩) 0 0 (by decide)
    rw [hP.out] at this
    rw [show (1 + bAsk P ⟨0, 0, true⟩ * ((0 : Int) % 1013)) % 1013 = 1 by rw [show (0 : Int) % 1013 = 0 from rfl, Int.mul_zero]; rfl] at this
    exact this
  have oP : Ok P := by rw [← hP.out]; exact sq_ok _
  refine (bdo_y N [] G B p vc vg [] [] none none 0 0 P 1 ⟨0, 0, true⟩ 0 w hF hv hB0 hNl (Lib.hid sq_zero.symm) (by decide) (fun h => absurd h (by decide)) (fun h => absurd h (by decide)) (fun g h => absurd h List.not_mem_nil) (Lib.hid fun w1 hb => bex_nil N G B p w1 (hF.below hb) ⟨_, _, hv.below hb⟩ (by omega)) (by simpa using hNl) (by decide) (by decide) oP (Lib.hid hq)).mono ?_
  rintro e w' ⟨rfl, vc', vg', hv', -, hb⟩
  refine ⟨rfl, ⟨vc', vg', ?_⟩, hb.below hB0 fun k hk => (hv.blk k hk).1⟩
  have e1 : goneL G [] ++ List.replicate ([] : List Int).length false = G := by show G ++ [] = G; rw [List.append_nil]
  rw [e1, List.append_nil] at hv'
  exact hv'
theorem btotal_nil (B p : Nat) (w : World) (hF : FarAt w) (hBk : BkAt w B p [] []) : Calls Tryz.prog 24 #[.pointer (some ⟨p, 0, none⟩)] w fun e w' => e = .returned (spV ⟨0, 0, true⟩) ∧ Below w.heap.size w w' := by
  have := btotal_c [] [] B p w hF hBk (by decide)
  rw [show totN [] [] ([] : List Int).length = 0 from rfl, qS_zero] at this
  exact this
theorem blive_n (N : List Int) (G : List Bool) (B p n : Nat) (w : World) (hBk : BkAt w B p N G) (hN : N.length ≤ 1000) (hn : Hid ((liveN G N.length).length = n)) :
    Calls Tryz.prog 56 #[.pointer (some ⟨p, 0, none⟩)] w fun e w' => ∃ a cap, e = .returned (.slice a n cap) ∧ Below w.heap.size w w' := by
  refine (blive_c N G B p w hBk (by omega)).mono ?_
  rintro e w' ⟨v, rfl, ho, hb⟩
  rw [hn.out] at ho
  obtain ⟨a, cap, rfl⟩ := own_slB ho
  exact ⟨a, cap, rfl, hb⟩
/-- The numbers of coins made of values and rests. -/
def coinN (vs rs : List Int) : Nat → List Int
  | 0 => []
  | n + 1 => coinN vs rs n ++ [vs.getD n 0 + hJ * rs.getD n 0]
theorem coinN_len (vs rs : List Int) : ∀ n, (coinN vs rs n).length = n
  | 0 => rfl
  | n + 1 => by unfold coinN; rw [List.length_append, coinN_len vs rs n]; rfl
theorem coinN_get (vs rs : List Int) : ∀ n p, p < n → (coinN vs rs n).getD p 0 = vs.getD p 0 + hJ * rs.getD p 0
  | 0, p, h => absurd h (Nat.not_lt_zero _)
  | n + 1, p, h => by
    unfold coinN
    by_cases e : p < n
    · rw [getD_app_lo _ _ _ _ (by rw [coinN_len]; exact e), coinN_get vs rs n p e]
    · obtain rfl : p = n := by omega
      have := getD_app_hi (coinN vs rs p) [vs.getD p 0 + hJ * rs.getD p 0] 0 0
      rw [coinN_len, Nat.add_zero] at this
      rw [this]; rfl
def okV (vs rs : List Int) (n : Nat) : Prop := ∀ j, j < n → 0 ≤ vs.getD j 0 ∧ vs.getD j 0 < 1013 ∧ 0 ≤ rs.getD j 0 ∧ rs.getD j 0 < 1013
theorem okV.snoc {vs rs : List Int} {n : Nat} (h : okV vs rs n) (k : 0 ≤ vs.getD n 0 ∧ vs.getD n 0 < 1013 ∧ 0 ≤ rs.getD n 0 ∧ rs.getD n 0 < 1013) : okV vs rs (n + 1) := fun j hj => by
  by_cases e : j < n
  · exact h j e
  · obtain rfl : j = n := by omega
    exact k
/-- Sums of those picked. -/
def psum (l : List Int) (ps : List Nat) : Int := (ps.map fun p => l.getD p 0).sum
theorem psum_snoc (l : List Int) (ps : List Nat) (p : Nat) : psum l (ps ++ [p]) = psum l ps + l.getD p 0 := by unfold psum; rw [List.map_append, List.sum_append]; simp
theorem psum_bd (l : List Int) (n : Nat) (h : ∀ j, j < n → 0 ≤ l.getD j 0 ∧ l.getD j 0 < 1013) : ∀ ps : List Nat, (∀ p ∈ ps, p < n) → 0 ≤ psum l ps ∧ psum l ps ≤ 1012 * ps.length
  | [], _ => by simp [psum]
  | p :: ps, hp => by
    have h1 := psum_bd l n h ps fun q hq => hp q (List.mem_cons_of_mem _ hq)
    have h2 := h p (hp p List.mem_cons_self)
    have e : psum l (p :: ps) = l.getD p 0 + psum l ps := by unfold psum; simp
    rw [e, List.length_cons]; omega
def tsum (l : List Int) : Nat → Int
  | 0 => 0
  | n + 1 => tsum l n + l.getD n 0
theorem tsum_bd (l : List Int) : ∀ n, (∀ j, j < n → 0 ≤ l.getD j 0 ∧ l.getD j 0 < 1013) → 0 ≤ tsum l n ∧ tsum l n ≤ 1012 * n
  | 0, _ => by simp [tsum]
  | n + 1, h => by
    have h1 := tsum_bd l n fun j hj => h j (by omega)
    have h2 := h n (by omega)
    unfold tsum; omega
theorem coinN_sum (vs rs : List Int) : ∀ n, (coinN vs rs n).sum = tsum vs n + hJ * tsum rs n
  | 0 => by simp [coinN, tsum]
  | n + 1 => by unfold coinN tsum; rw [List.sum_append, coinN_sum vs rs n, Int.mul_add]; simp; omega
theorem outN_coin (vs rs : List Int) (n : Nat) : ∀ ps : List Nat, (∀ p ∈ ps, p < n) → outN (coinN vs rs n) (nI ps) = -(psum vs ps) - hJ * psum rs ps
  | [], _ => by simp [outN, nI, psum]
  | p :: ps, hp => by
    have e : ∀ l, psum l (p :: ps) = l.getD p 0 + psum l ps := fun l => by unfold psum; simp
    rw [outN_cons, outN_coin vs rs n ps fun q hq => hp q (List.mem_cons_of_mem _ hq), coinN_get vs rs n p (hp p List.mem_cons_self), e, e, Int.mul_add]; omega
/-- What goes and what comes, in one number. -/
theorem deal_num (vs rs come by' : List Int) (n m : Nat) (ps : List Nat) (hp : ∀ p ∈ ps, p < n) : outN (coinN vs rs n) (nI ps) + (coinN come by' m).sum = (-(psum vs ps) + tsum come m) + hJ * (-(psum rs ps) + tsum by' m) := by
  rw [outN_coin vs rs n ps hp, coinN_sum, Int.mul_add, Int.mul_neg]; omega
/-- The array at block b tells which of the first m places are among ps. -/
structure InAt (w : World) (b m : Nat) (ps : List Nat) : Prop where
  lt : b < w.heap.size
  c : ∀ j, j < m → w.cell? ⟨b, j, none⟩ = some (.bool (decide (j ∈ ps)))
  f : ∀ j, j < m → w.frozen? ⟨b, j, none⟩ = false
theorem InAt.keep {w w' : World} {b m : Nat} {ps : List Nat} (h : InAt w b m ps) (hs : w.heap.size ≤ w'.heap.size) (hb : w'.heap[b]? = w.heap[b]?) : InAt w' b m ps :=
  ⟨Nat.lt_of_lt_of_le h.lt hs, fun j hj => (World.cell?_of_block (a := ⟨b, j, none⟩) hb).trans (h.c j hj), fun j hj => (World.frozen?_of_block (a := ⟨b, j, none⟩) hb).trans (h.f j hj)⟩
theorem InAt.fresh (w : World) (m : Nat) (cs : Array Value) (t : TypeId) (hc : cs = Array.replicate m (.bool false)) : InAt (w.alloc (.cells cs t)) w.heap.size m [] := by
  subst hc
  refine ⟨by simp, fun j hj => ?_, fun j hj => ?_⟩
  · rw [cell_of_row _ w.heap.size _ (Array.replicate m (.bool false)) t (0, 0) (heap_alloc_new w _)]
    simp [hj]
  · simp
theorem InAt.put {w : World} {b m : Nat} {ps : List Nat} (h : InAt w b m ps) (p : Nat) (hp : p < m) : InAt (w.setCell ⟨b, p, none⟩ (.bool true)) b m (ps ++ [p]) := by
  refine ⟨by simpa [World.setCell] using h.lt, fun j hj => ?_, fun j hj => by rw [World.frozen?_setCell]; exact h.f j hj⟩
  by_cases e : j = p
  · subst e
    rw [World.cell?_setCell_same _ _ _ (h.c j hj)]; simp
  · rw [World.cell?_setCell_other (h := fun k => e (by cases k; rfl)), h.c j hj]
    simp [e]
theorem nodup_le : ∀ (n : Nat) (l : List Nat), l.Nodup → (∀ x ∈ l, x < n) → l.length ≤ n
  | 0, l, _, h => by
    cases l with
    | nil => exact Nat.le_refl _
    | cons x l => exact absurd (h x (List.mem_cons_self ..)) (Nat.not_lt_zero _)
  | n + 1, l, hd, h => by
    have ih := nodup_le n (l.erase n) (hd.erase n) (fun x hx => by
      have := (hd.mem_erase_iff).mp hx
      have := h x this.2
      omega)
    rw [List.length_erase] at ih
    split at ih <;> omega
/-- A deal that lies in a block. -/
structure DlAt (w : World) (b : Nat) (g n : Value) (r : Sp) (s : Int) : Prop where
  c0 : w.cell? ⟨b, 0, none⟩ = some g
  c1 : w.cell? ⟨b, 1, none⟩ = some n
  c2 : w.cell? ⟨b, 2, none⟩ = some (.int .i64 r.x)
  c3 : w.cell? ⟨b, 3, none⟩ = some (.int .i64 r.y)
  c4 : w.cell? ⟨b, 4, none⟩ = some (.bool r.far)
  c5 : w.cell? ⟨b, 5, none⟩ = some (.int .i64 s)
  f0 : w.frozen? ⟨b, 0, none⟩ = false
  f1 : w.frozen? ⟨b, 1, none⟩ = false
  f2 : w.frozen? ⟨b, 2, none⟩ = false
  f3 : w.frozen? ⟨b, 3, none⟩ = false
  f4 : w.frozen? ⟨b, 4, none⟩ = false
  f5 : w.frozen? ⟨b, 5, none⟩ = false
  lt : b < w.heap.size
theorem DlAt.keep {w w' : World} {b : Nat} {g n : Value} {r : Sp} {s : Int} (h : DlAt w b g n r s) (hs : w.heap.size ≤ w'.heap.size) (hb : w'.heap[b]? = w.heap[b]?) : DlAt w' b g n r s :=
  have c : ∀ o, w'.cell? ⟨b, o, none⟩ = w.cell? ⟨b, o, none⟩ := fun o => World.cell?_of_block (a := ⟨b, o, none⟩) hb
  have f : ∀ o, w'.frozen? ⟨b, o, none⟩ = w.frozen? ⟨b, o, none⟩ := fun o => World.frozen?_of_block (a := ⟨b, o, none⟩) hb
  ⟨(c 0).trans h.c0, (c 1).trans h.c1, (c 2).trans h.c2, (c 3).trans h.c3, (c 4).trans h.c4, (c 5).trans h.c5, (f 0).trans h.f0, (f 1).trans h.f1, (f 2).trans h.f2, (f 3).trans h.f3, (f 4).trans h.f4, (f 5).trans h.f5, Nat.lt_of_lt_of_le h.lt hs⟩
theorem DlAt.below {w w' : World} {b : Nat} {g n : Value} {r : Sp} {s : Int} (h : DlAt w b g n r s) (hb : Below w.heap.size w w') : DlAt w' b g n r s := h.keep hb.size (hb.block b h.lt)
theorem DlAt.fresh (w : World) (t : TypeId) : DlAt (w.alloc (.cells #[.slice none 0 0, .slice none 0 0, .int .i64 0, .int .i64 0, .bool false, .int .i64 0] t)) w.heap.size (.slice none 0 0) (.slice none 0 0) ⟨0, 0, false⟩ 0 := ⟨by simp, by simp, by simp, by simp, by simp, by simp, by simp, by simp, by simp, by simp, by simp, by simp, by simp⟩
theorem DlAt.setg {w : World} {b : Nat} {g n : Value} {r : Sp} {s : Int} (h : DlAt w b g n r s) (v : Value) : DlAt (w.setCell ⟨b, 0, none⟩ v) b v n r s := by
  have c : ∀ o, o ≠ 0 → (w.setCell ⟨b, 0, none⟩ v).cell? ⟨b, o, none⟩ = w.cell? ⟨b, o, none⟩ := fun o ho => World.cell?_setCell_other _ _ _ _ (fun e => ho (congrArg Addr.off e).symm)
  have f : ∀ o, (w.setCell ⟨b, 0, none⟩ v).frozen? ⟨b, o, none⟩ = w.frozen? ⟨b, o, none⟩ := fun o => World.frozen?_setCell ..
  exact ⟨World.cell?_setCell_same _ _ _ h.c0, (c 1 (by decide)).trans h.c1, (c 2 (by decide)).trans h.c2, (c 3 (by decide)).trans h.c3, (c 4 (by decide)).trans h.c4, (c 5 (by decide)).trans h.c5, (f 0).trans h.f0, (f 1).trans h.f1, (f 2).trans h.f2, (f 3).trans h.f3, (f 4).trans h.f4, (f 5).trans h.f5, by simpa [World.setCell] using h.lt⟩
theorem DlAt.setn {w : World} {b : Nat} {g n : Value} {r : Sp} {s : Int} (h : DlAt w b g n r s) (v : Value) : DlAt (w.setCell ⟨b, 1, none⟩ v) b g v r s := by
  have c : ∀ o, o ≠ 1 → (w.setCell ⟨b, 1, none⟩ v).cell? ⟨b, o, none⟩ = w.cell? ⟨b, o, none⟩ := fun o ho => World.cell?_setCell_other _ _ _ _ (fun e => ho (congrArg Addr.off e).symm)
  have f : ∀ o, (w.setCell ⟨b, 1, none⟩ v).frozen? ⟨b, o, none⟩ = w.frozen? ⟨b, o, none⟩ := fun o => World.frozen?_setCell ..
  exact ⟨(c 0 (by decide)).trans h.c0, World.cell?_setCell_same _ _ _ h.c1, (c 2 (by decide)).trans h.c2, (c 3 (by decide)).trans h.c3, (c 4 (by decide)).trans h.c4, (c 5 (by decide)).trans h.c5, (f 0).trans h.f0, (f 1).trans h.f1, (f 2).trans h.f2, (f 3).trans h.f3, (f 4).trans h.f4, (f 5).trans h.f5, by simpa [World.setCell] using h.lt⟩
theorem DlAt.set1 {w : World} {b : Nat} {g n : Value} {r : Sp} {s : Int} (h : DlAt w b g n r s) (R : Sp) (S : Int) : DlAt ((((w.setCell ⟨b, 2, none⟩ (.int .i64 R.x)).setCell ⟨b, 3, none⟩ (.int .i64 R.y)).setCell ⟨b, 4, none⟩ (.bool R.far)).setCell ⟨b, 5, none⟩ (.int .i64 S)) b g n R S := by
  have c : ∀ (w : World) (q o : Nat) (v : Value), o ≠ q → (w.setCell ⟨b, q, none⟩ v).cell? ⟨b, o, none⟩ = w.cell? ⟨b, o, none⟩ := fun w q o v ho => World.cell?_setCell_other _ _ _ _ (fun e => ho (congrArg Addr.off e).symm)
  have f : ∀ (w : World) (q o : Nat) (v : Value), (w.setCell ⟨b, q, none⟩ v).frozen? ⟨b, o, none⟩ = w.frozen? ⟨b, o, none⟩ := fun w q o v => World.frozen?_setCell ..
  refine ⟨?_, ?_, ?_, ?_, ?_, ?_, ?_, ?_, ?_, ?_, ?_, ?_, by simpa [World.setCell] using h.lt⟩
  · rw [c _ 5 0 _ (by decide), c _ 4 0 _ (by decide), c _ 3 0 _ (by decide), c _ 2 0 _ (by decide)]; exact h.c0
  · rw [c _ 5 1 _ (by decide), c _ 4 1 _ (by decide), c _ 3 1 _ (by decide), c _ 2 1 _ (by decide)]; exact h.c1
  · rw [c _ 5 2 _ (by decide), c _ 4 2 _ (by decide), c _ 3 2 _ (by decide)]; exact World.cell?_setCell_same _ _ _ h.c2
  · rw [c _ 5 3 _ (by decide), c _ 4 3 _ (by decide)]; exact World.cell?_setCell_same _ _ _ ((c _ 2 3 _ (by decide)).trans h.c3)
  · rw [c _ 5 4 _ (by decide)]; exact World.cell?_setCell_same _ _ _ ((c _ 3 4 _ (by decide)).trans ((c _ 2 4 _ (by decide)).trans h.c4))
  · exact World.cell?_setCell_same _ _ _ ((c _ 4 5 _ (by decide)).trans ((c _ 3 5 _ (by decide)).trans ((c _ 2 5 _ (by decide)).trans h.c5)))
  all_goals rw [f, f, f, f]
  · exact h.f0
  · exact h.f1
  · exact h.f2
  · exact h.f3
  · exact h.f4
  · exact h.f5
section
variable {ops : Array Oper} {o : Oper} {a : Act} {w : World} {K : Act → World → Prop} {Q : Exit → Act → World → Prop} {E : Prop}
theorem stepi_app (hgd : o.guard = none) (s x : Operand) (t : TypeId)
    (ho : o.op = .call { callee := .builtin .append, args := #[s, x], argTypes := #[t, t] }) (ht : Tryz.prog.underlying t = some (.slice 3)) (B : Nat) (v : Value) (l : List Int) (n : Nat) (hs : a.eval s = v)
    (hown : w.ownsRow B 3 1 v n (l.map (Value.int .i64))) (hn : l.length = n) (hl : n ≤ 1000000) (hB : B ≤ w.heap.size) (g : Nat) (c : Int) (hx : a.eval x = .slice (some ⟨g, 0, none⟩) 1 1)
    (h0 : w.cell? ⟨g, 0, none⟩ = some (.int .i64 c))
    (h : ∀ v' w', w'.ownsRow B 3 1 v' (n + 1) ((l ++ [c]).map (Value.int .i64)) → w.grownBy w' v.ownBlock → (v'.ownBlock = v.ownBlock ∨ v'.ownBlock = some w.heap.size) → K (a.put o.dst v') w') :
    if Region.wanted o (yielded ops a.tmps) = true then Oper.wp Tryz.prog o a w K Q else E := by
  obtain ⟨i0, hi, hz0, hz1, hz2⟩ := info_parts info_int
  refine step_append_lies w hgd s x _ ho B _ i0 _ 1 8 ht hi hz0 hz1 hz2 rfl (by decide) v n _ hs hown ⟨g, 0, none⟩ 1 1 [.int .i64 c] hx rfl ?_ ?_ (by decide) (by unfold maxLen; omega) (by omega) hB _ rfl ?_
  · intro j u hj
    have e : ∀ k, (⟨g, 0, none⟩ : Addr).add k = ⟨g, k, none⟩ := fun k => by rw [add_none, Nat.zero_add]
    rw [e]
    match j, hj with
    | 0, hj => cases hj; exact h0
  · intro u hu
    simp only [List.mem_cons, List.not_mem_nil, or_false] at hu
    subst hu; rfl
  · intro k cap w' h3 h4 h5 _
    rw [show l.map (Value.int .i64) ++ [.int .i64 c] = (l ++ [c]).map (Value.int .i64) by simp] at h3
    refine h _ w' h3 h4 ?_
    rcases h5 with h5 | h5
    · exact .inl (by rw [h5]; rfl)
    · exact .inr (by rw [h5]; rfl)
end
theorem nI_snoc (ps : List Nat) (q : Nat) : nI (ps ++ [q]) = nI ps ++ [(q : Int)] := by unfold nI; rw [List.map_append]; rfl
theorem IntsAt.but {S : Nat → Prop} {w w' : World} {b o : Nat} {l : List Int} (h : IntsAt w b o l) (hb : But S w w') (hs : ¬ S b) : IntsAt w' b o l :=
  ⟨Nat.lt_of_lt_of_le h.lt hb.size, fun i hi => (hb.cell h.lt hs _).trans (h.c i hi)⟩
theorem own_intsB {w : World} {B e n : Nat} {v : Value} {l : List Int} (h : w.ownsRow B e 1 v n (l.map (Value.int .i64))) (hn : n = l.length) : ∃ a cap, v = .slice a n cap ∧ n ≤ cap ∧ cap ≤ 9223372036854775807 ∧ (0 < l.length → ∃ b o, a = some ⟨b, o, none⟩ ∧ IntsAt w b o l ∧ B ≤ b) := by
  rcases h.2 with ⟨rfl, h0⟩ | ⟨g, cap, cur, rfl, hB, -, hc, hm, -⟩
  · exact ⟨none, 0, by rw [h0], by omega, by decide, fun h1 => by omega⟩
  · refine ⟨_, cap, rfl, hc, by unfold maxLen at hm; omega, fun h1 => ?_⟩
    obtain ⟨a, c, e2, h3⟩ := own_ints h hn
    obtain ⟨b, o, e3, h4⟩ := h3 h1
    simp only [Value.slice.injEq] at e2
    obtain ⟨e5, -, -⟩ := e2
    rw [e3] at e5
    have e6 := Option.some.inj e5
    simp only [Addr.mk.injEq] at e6
    obtain ⟨e7, -, -⟩ := e6
    exact ⟨b, o, e3 ▸ (by rw [e3]; exact e5), h4, e7 ▸ hB⟩
theorem own_spotsB {w : World} {B e n : Nat} {v : Value} {l : List Sp} (h : w.ownsRow B e 3 v n (spCells l)) (hn : n = l.length) : ∃ a cap, v = .slice a n cap ∧ (0 < l.length → ∃ b o, a = some ⟨b, o, none⟩ ∧ SpotsAt w b o l ∧ B ≤ b) := by
  rcases h.2 with ⟨rfl, h0⟩ | ⟨g, cap, cur, rfl, hB, -, hc, hm, -⟩
  · exact ⟨none, 0, by rw [h0], fun h1 => by omega⟩
  · refine ⟨_, cap, rfl, fun h1 => ?_⟩
    obtain ⟨a, c, e2, h3⟩ := own_spots h hn
    obtain ⟨b, o, e3, h4⟩ := h3 h1
    simp only [Value.slice.injEq] at e2
    obtain ⟨e5, -, -⟩ := e2
    rw [e3] at e5
    have e6 := Option.some.inj e5
    simp only [Addr.mk.injEq] at e6
    obtain ⟨e7, -, -⟩ := e6
    exact ⟨b, o, e3 ▸ (by rw [e3]; exact e5), h4, e7 ▸ hB⟩
theorem nI_get (ps : List Nat) (i : Nat) (h : i < (nI ps).length) : (nI ps)[i] = ((ps[i]'(by rw [nI_len] at h; exact h) : Nat) : Int) := by simp [nI]
theorem gErr_fresh (n : Nat) (ps : List Nat) (hnd : ps.Nodup) (hps : ∀ q ∈ ps, q < n) (i : Nat) (h : i < (nI ps).length) : gErrB (List.replicate n false) ((nI ps).take i) (nI ps)[i] = 0 := by
  have hi : i < ps.length := by rw [nI_len] at h; exact h
  have h1 := hps _ (List.getElem_mem hi)
  rw [nI_get ps i h]
  unfold gErrB
  rw [if_neg (by rw [List.length_replicate]; omega), if_neg (by rw [Int.toNat_natCast, getD_fresh n _ h1]; simp), if_neg ?_]
  intro hm
  obtain ⟨j, hj, e⟩ := List.getElem_of_mem hm
  rw [List.length_take] at hj
  rw [List.getElem_take, nI_get ps j (by omega)] at e
  have := List.pairwise_iff_getElem.mp hnd j i (by omega) hi (by omega)
  omega
theorem gErr_again (n m : Nat) (ps : List Nat) (hps : ∀ q ∈ ps, q < n) (h : 0 < (nI ps).length) : gErrB (goneL (List.replicate n false) (nI ps) ++ List.replicate m false) ((nI ps).take 0) (nI ps)[0] = 6 := by
  have hi : 0 < ps.length := by rw [nI_len] at h; exact h
  have h0 := List.getElem_mem hi
  have h1 := hps _ h0
  rw [nI_get ps 0 h]
  unfold gErrB
  have hl : (goneL (List.replicate n false) (nI ps)).length = n := by rw [goneL_len, List.length_replicate]
  rw [if_neg (by rw [List.length_append, hl]; omega), if_pos]
  rw [Int.toNat_natCast, getD_app_lo _ _ _ _ (by rw [hl]; exact h1), goneL_getD, if_pos h0]
section
variable (N M : List Int) (B p n m : Nat) (ps : List Nat) (a0 a1 : Option Addr) (c0 c1 : Nat) (X : Sp) (w : World) (hF : FarAt w)
include hF
theorem bex_all (hBk : BkAt w B p N (List.replicate n false)) (hn : N.length = n) (hN : n ≤ 900) (hm : M.length = m) (hM : m ≤ 12) (hnd : ps.Nodup) (hps : ∀ q ∈ ps, q < n) (hc0 : ps.length ≤ c0) (hc0' : c0 ≤ 9223372036854775807) (hX : Hid (qS (outN N (nI ps) + M.sum) = X)) (h0 : 0 < (nI ps).length → ∃ b o, a0 = some ⟨b, o, none⟩ ∧ IntsAt w b o (nI ps)) (h1 : 0 < (M.map qS).length → ∃ b o, a1 = some ⟨b, o, none⟩ ∧ SpotsAt w b o (M.map qS)) :
    Calls Tryz.prog 17 #[.pointer (some ⟨p, 0, none⟩), .slice a0 ps.length c0, .slice a1 m c1] w fun e w' => e = .returned (.tuple #[spV X, .nilIface]) ∧ Below w.heap.size w w' := by
  subst hm
  have hl : (M.map qS).length = M.length := List.length_map _
  have hb := bex_core N (List.replicate n false) B p (nI ps) (M.map qS) a0 a1 c0 c1 (nI ps).length 0 .nilIface (.tuple #[spV X, .nilIface]) w hF hBk (by omega) (by rw [nI_len]; omega) (by rw [nI_len]; omega) hc0' h0 h1 (by omega) (Nat.le_refl _) (fun i h _ => gErr_fresh n ps hnd hps i h) (fun h => absurd h (Nat.lt_irrefl _))
    (Lib.hid fun w1 hb1 => bcheck_core (M.map qS) (M.map qS).length .nilIface a1 c1 w1 (hF.below hb1) (by omega) (fun h => by obtain ⟨b, o, e, hs⟩ := h1 h; exact ⟨b, o, e, hs.below hb1⟩) (Lib.hid fun k h1 _ => ⟨_, List.getElem_map _⟩) (Nat.le_refl _) (Lib.hid fun h => absurd h (Nat.lt_irrefl _)) (Lib.hid fun h => absurd h (Nat.lt_irrefl _)) (Lib.hid fun _ => rfl))
    (Lib.hid fun h => absurd h (Nat.lt_irrefl _)) (Lib.hid fun _ => .inr ⟨rfl, M, rfl, by rw [hX.out]⟩)
  rw [hl, nI_len] at hb
  exact hb
theorem bdo_all (vc vg : Value) (P : Sp) (S x : Int) (hBk : BkV w B p vc vg N (List.replicate n false)) (hB0 : B ≤ w.heap.size) (hn : N.length = n) (hN : n ≤ 900) (hm : M.length = m) (hM : m ≤ 12) (hnd : ps.Nodup) (hps : ∀ q ∈ ps, q < n) (hc0 : ps.length ≤ c0) (hc0' : c0 ≤ 9223372036854775807) (hx : Hid (outN N (nI ps) + M.sum = x)) (hX : Hid (qS x = X)) (h0 : 0 < (nI ps).length → ∃ b o, a0 = some ⟨b, o, none⟩ ∧ IntsAt w b o (nI ps) ∧ ¬ inB p vc vg b) (h1 : 0 < (M.map qS).length → ∃ b o, a1 = some ⟨b, o, none⟩ ∧ SpotsAt w b o (M.map qS) ∧ ¬ inB p vc vg b)
    (S0 : 0 ≤ S) (S1 : S < 1013) (oP : Ok P) (hq : Hid (Sp.beq (sq (4 * hJ * S)) (sSum P (sq (4 * x * bAsk P X))) = true)) :
    Calls Tryz.prog 20 #[.pointer (some ⟨p, 0, none⟩), dlV (.slice a0 ps.length c0) (.slice a1 m c1) P S] w fun e w' => e = .returned .nilIface ∧ Did w w' B p vc vg (N ++ M) (goneL (List.replicate n false) (nI ps) ++ List.replicate m false) := by
  have hexx := fun (w1 : World) (hb : Below w.heap.size w w1) => bex_all N M B p n m ps a0 a1 c0 c1 X w1 (hF.below hb) ⟨_, _, hBk.below hb⟩ hn hN hm hM hnd hps hc0 hc0' (Lib.hid (by rw [hx.out]; exact hX.out)) (fun h => by obtain ⟨b, o, e, hs, -⟩ := h0 h; exact ⟨b, o, e, hs.below hb⟩) (fun h => by obtain ⟨b, o, e, hs, -⟩ := h1 h; exact ⟨b, o, e, hs.below hb⟩)
  subst hm
  have hb := bdo_y N M (List.replicate n false) B p vc vg (nI ps) [] a0 a1 c0 c1 P S X x w hF hBk hB0 (by omega) (Lib.hid hX.out.symm) (by rw [nI_len]; omega) h0 h1 (fun g hg => by
    obtain ⟨q, hq1, rfl⟩ := List.mem_map.mp hg
    have := hps q hq1
    omega) (Lib.hid (by rw [nI_len]; exact hexx)) (by omega) S0 S1 oP hq
  rw [nI_len] at hb
  exact hb
theorem bdo_wrong (P : Sp) (S x : Int) (hBk : BkAt w B p N (List.replicate n false)) (hn : N.length = n) (hN : n ≤ 900) (hm : M.length = m) (hM : m ≤ 12) (hnd : ps.Nodup) (hps : ∀ q ∈ ps, q < n) (hc0 : ps.length ≤ c0) (hc0' : c0 ≤ 9223372036854775807) (hx : Hid (outN N (nI ps) + M.sum = x)) (hX : Hid (qS x = X)) (h0 : 0 < (nI ps).length → ∃ b o, a0 = some ⟨b, o, none⟩ ∧ IntsAt w b o (nI ps)) (h1 : 0 < (M.map qS).length → ∃ b o, a1 = some ⟨b, o, none⟩ ∧ SpotsAt w b o (M.map qS))
    (S0 : 0 ≤ S) (S1 : S < 1013) (oP : Ok P) (hq : Hid (Sp.beq (sq (4 * hJ * S)) (sSum P (sq (4 * x * bAsk P X))) = false)) :
    Calls Tryz.prog 20 #[.pointer (some ⟨p, 0, none⟩), dlV (.slice a0 ps.length c0) (.slice a1 m c1) P S] w fun e w' => e = .returned (.iface 84 (.int .i64 8)) ∧ Below w.heap.size w w' :=
  bdo_n N (List.replicate n false) B p a0 a1 ps.length m c0 c1 P S X x 8 _ w hF hBk (by omega) (by omega) (Lib.hid hX.out.symm)
    (Lib.hid fun w1 hb => bex_all N M B p n m ps a0 a1 c0 c1 X w1 (hF.below hb) (hBk.below hb) hn hN hm hM hnd hps hc0 hc0' (Lib.hid (by rw [hx.out]; exact hX.out)) (fun h => by obtain ⟨b, o, e, hs⟩ := h0 h; exact ⟨b, o, e, hs.below hb⟩) (fun h => by obtain ⟨b, o, e, hs⟩ := h1 h; exact ⟨b, o, e, hs.below hb⟩))
    (Lib.hid (.inr ⟨rfl, .inr ⟨by omega, .inr ⟨⟨S0, S1⟩, .inr ⟨oP, rfl, hq.out⟩⟩⟩⟩))
/-- No coin goes twice. -/
theorem bdo_again (P : Sp) (S : Int) (hBk : BkAt w B p N (goneL (List.replicate n false) (nI ps) ++ List.replicate m false)) (hN : N.length ≤ 1000) (hM : m ≤ 12) (hps : ∀ q ∈ ps, q < n) (hp0 : 0 < ps.length) (hc0 : ps.length ≤ c0) (hc0' : c0 ≤ 9223372036854775807) (hC : M.length = m) (h0 : 0 < (nI ps).length → ∃ b o, a0 = some ⟨b, o, none⟩ ∧ IntsAt w b o (nI ps)) (h1 : 0 < (M.map qS).length → ∃ b o, a1 = some ⟨b, o, none⟩ ∧ SpotsAt w b o (M.map qS)) :
    Calls Tryz.prog 20 #[.pointer (some ⟨p, 0, none⟩), dlV (.slice a0 ps.length c0) (.slice a1 m c1) P S] w fun e w' => e = .returned (.iface 84 (.int .i64 6)) ∧ Below w.heap.size w w' := by
  subst hC
  have hl : (M.map qS).length = M.length := List.length_map _
  have hex := fun (w1 : World) (hb : Below w.heap.size w w1) => bex_core N _ B p (nI ps) (M.map qS) a0 a1 c0 c1 0 6 .nilIface (.tuple #[spV ⟨0, 0, false⟩, .iface 84 (.int .i64 6)]) w1 (hF.below hb) (hBk.below hb) (by omega) (by rw [nI_len]; omega) (by rw [nI_len]; omega) hc0' (fun h => by obtain ⟨b, o, e, hs⟩ := h0 h; exact ⟨b, o, e, hs.below hb⟩) (fun h => by obtain ⟨b, o, e, hs⟩ := h1 h; exact ⟨b, o, e, hs.below hb⟩) (by omega) (Nat.zero_le _) (fun i _ h => absurd h (Nat.not_lt_zero _)) (fun h => ⟨gErr_again n _ ps hps h, by decide⟩)
    (Lib.hid fun w2 hb2 => bcheck_core (M.map qS) (M.map qS).length .nilIface a1 c1 w2 (hF.below (below_seq hb hb2)) (by rw [List.length_map]; omega) (fun h => by obtain ⟨b, o, e, hs⟩ := h1 h; exact ⟨b, o, e, hs.below (below_seq hb hb2)⟩) (Lib.hid fun k h1 _ => ⟨_, List.getElem_map _⟩) (Nat.le_refl _) (Lib.hid fun h => absurd h (Nat.lt_irrefl _)) (Lib.hid fun h => absurd h (Nat.lt_irrefl _)) (Lib.hid fun _ => rfl))
    (Lib.hid fun _ => rfl) (Lib.hid fun h => absurd h (by rw [nI_len]; omega))
  simp only [nI_len, List.length_map] at hex
  exact bdo_n N _ B p a0 a1 ps.length M.length c0 c1 P S ⟨0, 0, true⟩ 0 6 _ w hF hBk (by omega) (by omega) (Lib.hid sq_zero.symm) (Lib.hid hex) (Lib.hid (.inl rfl))
end
end Go.Proofs.YtjjmelhhalomaaaGreatDoor
