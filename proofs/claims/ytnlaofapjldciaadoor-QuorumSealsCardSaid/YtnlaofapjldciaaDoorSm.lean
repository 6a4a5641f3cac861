/- What comes of a secret that is split; turned numbers modulo Q. -/
import Derived.Test.YtnlaofapjldciaaDoorSk
import Derived.Test.YtnlaofapjldciaaDoorSpn
namespace Go.Proofs.YtnlaofapjldciaaDoor
open Go.RowKit
set_option linter.unusedVariables false
/-- The array at block b tells which of the first m places are among ps. -/
structure IsAt (w : World) (b m : Nat) (ps : List Nat) : Prop where
  lt : b < w.heap.size
  c : ∀ j, j < m → w.cell? ⟨b, j, none⟩ = some (.bool (decide (j ∈ ps)))
  f : ∀ j, j < m → w.frozen? ⟨b, j, none⟩ = false
theorem IsAt.below {w w' : World} {b m B : Nat} {ps : List Nat} (h : IsAt w b m ps) (hb : Below B w w') (hB : b < B) : IsAt w' b m ps :=
  ⟨Nat.lt_of_lt_of_le h.lt hb.size, fun j hj => (hb.cell (p := ⟨b, j, none⟩) hB).trans (h.c j hj), fun j hj => (hb.frozen (p := ⟨b, j, none⟩) hB).trans (h.f j hj)⟩
theorem IsAt.fresh (w : World) (m : Nat) (cs : Array Value) (t : TypeId) (hc : cs = Array.replicate m (.bool false)) : IsAt (w.alloc (.cells cs t)) w.heap.size m [] := by
  subst hc
  refine ⟨by simp, fun j hj => ?_, fun j hj => ?_⟩
  · rw [cell_of_row _ w.heap.size _ (Array.replicate m (.bool false)) t (0, 0) (heap_alloc_new w _)]
    simp [hj]
  · simp
theorem IsAt.put {w : World} {b m : Nat} {ps : List Nat} (h : IsAt w b m ps) (p : Nat) (hp : p < m) : IsAt (w.setCell ⟨b, p, none⟩ (.bool true)) b m (ps ++ [p]) := by
  refine ⟨by simpa [World.setCell] using h.lt, fun j hj => ?_, fun j hj => by rw [World.frozen?_setCell]; exact h.f j hj⟩
  by_cases e : j = p
  · subst e
    rw [World.cell?_setCell_same _ _ _ (h.c j hj)]; simp
  · rw [World.cell?_setCell_other (h := fun k => e (by cases k; rfl)), h.c j hj]
    simp [e]
theorem split_is (a : List Int) (v : Value) (n : Int) (hl : a.length ≤ 9223372036854775807) : (∃ E : Int, E ≠ 0 ∧ ∀ w : World, IntSl w v a → Calls Tryd.prog 21 #[v, .int .i64 n] w fun e w' => e = .returned (.tuple #[.slice none 0 0, .iface 125 (.int .i64 E)]) ∧ Below w.heap.size w w') ∨
    (∃ m : Nat, n = m ∧ 1 ≤ m ∧ m ≤ 12 ∧ 1 ≤ a.length ∧ a.length ≤ 12 ∧ a.all okR = true ∧ ∀ w : World, IntSl w v a → Calls Tryd.prog 21 #[v, .int .i64 n] w fun e w' => ∃ v', e = .returned (.tuple #[v', .nilIface]) ∧ ShSl w' v' (splitL a m) ∧ Below w.heap.size w w') := by
  by_cases hE : splitF a n = 0
  · obtain ⟨l1, l2, hok, n1, n2⟩ := splitF_0 hE
    obtain ⟨m, rfl⟩ : ∃ m : Nat, n = (m : Int) := ⟨n.toNat, by omega⟩
    exact .inr ⟨m, rfl, by omega, by omega, l1, l2, hok, fun w h => split_ok a v m w l1 l2 hok (by omega) (by omega) h⟩
  · exact .inl ⟨_, hE, fun w h => split_n a v n _ w hl h rfl hE⟩
theorem split_tells {l : List Int} {m : Nat} (hl1 : 1 ≤ l.length) (hok : l.all okR = true) (hlm : l.length ≤ m) (hm : m ≤ 12) : comb (splitL l m) = l[0] :=
  pickL_tells (ps := List.range m) hm (fun p hp => List.mem_range.mp hp) List.nodup_range hl1 hok (by rw [List.length_range]; exact hlm)
theorem sb_split (w : World) : Calls Tryd.prog 21 #[.slice (some ⟨w.heap.size, 0, none⟩) 2 2, .int .i64 2] (w.alloc (.cells #[.int .i64 5, .int .i64 2] 3)) fun e w' => ∃ b off cap, e = .returned (.tuple #[.slice (some ⟨b, off, none⟩) 2 cap, .nilIface]) ∧ ShsAt w' b off (splitL [5, 2] 2) ∧ w'.cell? ⟨b, off + 1, none⟩ = some (.int .i64 7) ∧ b < w'.heap.size ∧ Below (w.alloc (.cells #[.int .i64 5, .int .i64 2] 3)).heap.size (w.alloc (.cells #[.int .i64 5, .int .i64 2] 3)) w' := by
  have i1 := IntSl.made w [5, 2] w.heap.size 2 2 #[.int .i64 5, .int .i64 2] 3 rfl rfl rfl
  refine (split_ok [5, 2] _ 2 _ (by decide) (by decide) (by decide) (by decide) (by decide) i1).mono ?_
  rintro e w' ⟨v', rfl, ⟨a, cap, rfl, hs⟩, hb⟩
  obtain ⟨b, off, rfl, hs'⟩ := hs (by rw [splitL_len]; decide)
  have := hs'.cy 0 (by rw [splitL_len]; decide)
  exact ⟨b, off, cap, rfl, hs', this, hs'.lt, hb⟩
theorem sb_comb (b off cap : Nat) (w : World) (h : ShsAt w b off (splitL [5, 2] 2)) : Calls Tryd.prog 28 #[.slice (some ⟨b, off, none⟩) 2 cap] w fun e w' => e = .returned (.tuple #[.int .i64 5, .nilIface]) ∧ Below w.heap.size w w' := by
  have := combine_ok (splitL [5, 2] 2) (.slice (some ⟨b, off, none⟩) 2 cap) w (by rw [splitL_len]; decide) (by rw [splitL_len]; decide)
    (pickL_ok (l := [5, 2]) (ps := List.range 2) (n := 2) (by decide) (fun p hp => List.mem_range.mp hp)) (pickL_ne (l := [5, 2]) (ps := List.range 2) List.nodup_range) ⟨_, cap, rfl, fun _ => ⟨b, off, rfl, h⟩⟩
  rw [split_tells (l := [5, 2]) (m := 2) (by decide) (by decide) (by decide) (by decide)] at this
  exact this
theorem own_sl {w : World} {B e size n : Nat} {v : Value} {xs : List Value} (h : w.ownsRow B e size v n xs) : ∃ a cap, v = .slice a n cap := by
  rcases h.2 with ⟨rfl, h0⟩ | ⟨g, cap, cur, rfl, -⟩
  · exact ⟨none, 0, by rw [h0]⟩
  · exact ⟨_, _, rfl⟩
end Go.Proofs.YtnlaofapjldciaaDoor
