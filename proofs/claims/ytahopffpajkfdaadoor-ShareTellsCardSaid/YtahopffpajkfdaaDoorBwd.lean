/- slices.Backward over rests modulo Q: what it hands a loop's body, and its contract. -/
import Derived.RangeFuncNested
import Derived.RangeFuncBound
import Derived.RangeFuncCalls
import Derived.RangeFuncLeaves
import Derived.Shelf.Abstract
import Derived.Shelf.RegionOpen
import Derived.WalkKit
import Derived.OwnWalkIn
import Derived.TacticsInMore
import Derived.LoopNIn
import Derived.LoopIn
import Derived.Test.YtahopffpajkfdaaDoorCf
namespace Go.Proofs.YtahopffpajkfdaaDoor
open Go.RowKit Go.Shelf
set_option maxRecDepth 100000
set_option linter.unusedVariables false
set_option linter.unusedSimpArgs false
attribute [local go_sem] Oper.semAt_some
/-- A rest modulo Q. -/
abbrev Rest := { c : Int // 0 ≤ c ∧ c < 1013 }
def restAt (l : List Int) (j : Nat) : Rest := if h : 0 ≤ l.getD j 0 ∧ l.getD j 0 < 1013 then ⟨l.getD j 0, h⟩ else ⟨0, by decide, by decide⟩
theorem restAt_ok {l : List Int} (h : l.all okR = true) (j : Nat) (hj : j < l.length) : (restAt l j).1 = l[j] := by
  have he : l.getD j 0 = l[j] := by rw [List.getD_eq_getElem?_getD, List.getElem?_eq_getElem hj]; rfl
  have := okR_y (all_okR h j hj)
  unfold restAt
  rw [dif_pos (by rw [he]; exact this)]
  exact he
/-- What has come behind k rounds. -/
def upto {α : Type} (f : Nat → α) (k : Nat) : List α := (List.range k).map f
theorem upto_succ {α : Type} (f : Nat → α) (k : Nat) : upto f (k + 1) = upto f k ++ [f k] := by simp [upto, List.range_succ]
theorem upto_length {α : Type} (f : Nat → α) (k : Nat) : (upto f k).length = k := by simp [upto]
/-- From the last to the first: the place, and what stands there. -/
def back (l : List Int) (k : Nat) : Int × Rest := (((l.length - 1 - k : Nat) : Int), restAt l (l.length - 1 - k))
/-- What a round keeps: all below n₀, and the box of the slice. -/
def KB (n₀ Bs : Nat) (W W' : World) : Prop := Below n₀ W W' ∧ W'.heap[Bs]? = W.heap[Bs]?
theorem KB.refl {n₀ Bs : Nat} {W : World} : KB n₀ Bs W W := ⟨Below.refl _ _, rfl⟩
theorem KB.trans {n₀ Bs : Nat} {A B C : World} (h : KB n₀ Bs A B) (k : KB n₀ Bs B C) : KB n₀ Bs A C := ⟨h.1.trans k.1, k.2.trans h.2⟩
theorem KB.cell {n₀ Bs : Nat} {W W' : World} (h : KB n₀ Bs W W') (o : Nat) : W'.cell? ⟨Bs, o, none⟩ = W.cell? ⟨Bs, o, none⟩ := World.cell?_of_block (w := W) h.2
theorem KB.put {n₀ Bs : Nat} {w : World} (hn : n₀ ≤ w.heap.size) (hB : Bs < w.heap.size) (W : World) (l : Nat) (o o' : Obj) (hl : w.heap.size ≤ l) (h : W.heap[l]? = some o) (h1 : o.isCells = false) (h2 : o.isWalk = false) : KB n₀ Bs W (W.putObj l o') :=
  ⟨belowK_b hn W l o o' hl h h1 h2, World.putObj_heap_other (by omega)⟩
set_option maxHeartbeats 2000000 in
theorem back1_in (F : Fence) (n : Nat) (hf : F.fn 123) (hro : F.round = none) (hn : 1 ≤ n) (l Bs n₀ b off cap : Nat) (zs : List Int) (hz : zs.all okR = true) (hl : zs.length ≤ 12) (hb : b < n₀) (J Jx : List (Int × Rest) → World → Prop)
    (hY : ∀ pre x W, J pre W → pre.length < zs.length → YieldAt F (n - 1) Tryd.prog l #[.int .i64 x.1, .int .i64 x.2.1] W fun e W' =>
      (e = .returned (.bool true) ∧ J (pre ++ [x]) W' ∧ KB n₀ Bs W W') ∨ (e = .returned (.bool false) ∧ Jx (pre ++ [x]) W'))
    (W : World) (hBs : W.cell? ⟨Bs, 0, none⟩ = some (.slice (some ⟨b, off, none⟩) zs.length cap)) (hc : ∀ j (h : j < zs.length), W.cell? ⟨b, off + j, none⟩ = some (.int .i64 zs[j])) (h0 : J [] W) :
    CallsIn F n Tryd.prog 123 #[.func (.yield l) #[] #[], .pointer (some ⟨Bs, 0, none⟩)] W fun e W' => (∃ v, e = .returned v) ∧
      ((∃ ys, ys = upto (back zs) zs.length ∧ J ys W') ∨ (∃ pre, (∃ k, k ≤ zs.length ∧ pre = upto (back zs) k) ∧ Jx pre W')) := by
  refine callsIn_of_wp Tryd.func123 rfl hf ?_ hro
  simp only [Tryd.ntmps123, List.size_toArray, List.length_cons, List.length_nil, Nat.reduceAdd, Nat.reduceSub, Array.replicate_succ, Array.replicate_zero, List.push_toArray, List.append_toArray, List.nil_append, List.cons_append]
  gi_wp2
  gi_loopw [3] (fun i wr => ∃ k : Nat, k ≤ zs.length ∧ i = .int .i64 ((zs.length : Int) - 1 - k) ∧ J (upto (back zs) k) wr ∧ KB n₀ Bs W wr)
    (fun i _ => (intOf i + 1).toNat)
  case atStart => exact ⟨0, Nat.zero_le _, by simp, h0, KB.refl⟩
  case round =>
    obtain ⟨k, hk, rfl, hJs, hnx⟩ := hrel
    by_cases hlt : k < zs.length
    · obtain ⟨j, hj⟩ : ∃ j : Nat, zs.length - 1 - k = j := ⟨_, rfl⟩
      have hjl : j < zs.length := by omega
      have hcx := (hnx.1.cell (p := ⟨b, off + j, none⟩) hb).trans (hc j hjl)
      have hcs := (hnx.cell 0).trans hBs
      have hbk : back zs k = ((j : Int), restAt zs j) := by unfold back; rw [hj]
      have hv := restAt_ok hz j hjl
      obtain ⟨fn, tmps, assign, body, hy, hR⟩ := hY _ (back zs k) wr hJs (by rw [upto_length]; exact hlt)
      rw [hbk] at hy
      simp only [hv] at hy
      have hji : (zs.length : Int) - 1 - k = j := by omega
      rw [hji]
      have hu := upto_succ (back zs) k
      have hnext : (j : Int) - 1 = (zs.length : Int) - 1 - (k + 1 : Nat) := by omega
      replace hu := Lib.hid hu
      replace hnext := Lib.hid hnext
      replace hbk := Lib.hid hbk
      replace hv := Lib.hid hv
      replace hji := Lib.hid hji
      replace hj := Lib.hid hj
      replace hR := Lib.hid hR
      gi_wp2
      refine hR.out.mono ?_
      rintro e W3 (⟨rfl, hJ3, hk3⟩ | ⟨rfl, hJx3⟩)
      · gi_wp2
        go_roundw
        case rel => exact ⟨k + 1, by omega, by rw [← hnext.out], by rw [hu.out]; exact hJ3, hnx.trans hk3⟩
        case measure => simp [intOf] <;> omega
      · gi_wp2
        refine bodyPost_ret (results_none rfl _ _ _) rfl ?_
        exact ⟨⟨_, rfl⟩, .inr ⟨_, ⟨k + 1, by omega, hu.out.symm⟩, hJx3⟩⟩
    · obtain rfl : k = zs.length := by omega
      rw [show (zs.length : Int) - 1 - (zs.length : Nat) = -1 by omega]
      gi_wp2
      go_end0
      exact ⟨⟨_, rfl⟩, .inl ⟨_, rfl, hJs⟩⟩
theorem back_stops (F : Fence) (n : Nat) (hf : F.fn 123) (hro : F.round = none) (hn : 1 ≤ n) (Bs n₀ b off cap : Nat) (zs : List Int) (hz : zs.all okR = true) (hl : zs.length ≤ 12) (hb : b < n₀) (w : World) (hBs : Bs < w.heap.size)
    (hc : w.cell? ⟨Bs, 0, none⟩ = some (.slice (some ⟨b, off, none⟩) zs.length cap)) (hI : IntsAt w b off zs) :
    SeqStopsK F n Tryd.prog 123 #[.pointer (some ⟨Bs, 0, none⟩)] (fun x : Int × Rest => #[Value.int .i64 x.1, Value.int .i64 x.2.1]) (KB n₀ Bs) (fun ys => ys = upto (back zs) zs.length)
      (fun pre => ∃ k, k ≤ zs.length ∧ pre = upto (back zs) k) zs.length w := fun l J Jx W hW _ _ hY h0 => by
  have hc' := (hW.cell (p := ⟨Bs, 0, none⟩) hBs).trans hc
  have hI' := hI.below hW
  exact back1_in F n hf hro hn l Bs n₀ b off cap zs hz hl hb J Jx hY W hc' hI'.c h0
theorem backward_c (a : Option Addr) (len cap : Nat) (w : World) :
    Calls Tryd.prog 81 #[.slice a len cap] w fun e w' => e = .returned (.func (.func 123) #[] #[.pointer (some ⟨w.heap.size, 0, none⟩)]) ∧ w' = w.alloc (.cells #[.slice a len cap] 24) := by
  go_enter Tryd.func81, Tryd.ntmps81
  go_wp2
  go_ret
  exact ⟨rfl, rfl⟩
end Go.Proofs.YtahopffpajkfdaaDoor
