/- What comes of a secret that is split; turned numbers modulo Q. -/
import Derived.Test.YtnlaofapjldciaaPk
import Derived.Test.YtnlaofapjldciaaSpn
import Derived.Test.YtnlaofapjldciaaRa
namespace Go.Proofs.Ytnlaofapjldciaa
open Go.RowKit
set_option linter.unusedVariables false
theorem split_is (a : List Int) (v : Value) (n : Int) (hl : a.length ≤ 9223372036854775807) : (∃ E : Int, E ≠ 0 ∧ ∀ w : World, IntSl w v a → Calls Try.prog 6 #[v, .int .i64 n] w fun e w' => e = .returned (.tuple #[.slice none 0 0, .iface 38 (.int .i64 E)]) ∧ Below w.heap.size w w') ∨
    (∃ m : Nat, n = m ∧ 1 ≤ m ∧ m ≤ 12 ∧ 1 ≤ a.length ∧ a.length ≤ 12 ∧ a.all okR = true ∧ ∀ w : World, IntSl w v a → Calls Try.prog 6 #[v, .int .i64 n] w fun e w' => ∃ v', e = .returned (.tuple #[v', .nilIface]) ∧ ShSl w' v' (splitL a m) ∧ Below w.heap.size w w') := by
  by_cases hE : splitF a n = 0
  · obtain ⟨l1, l2, hok, n1, n2⟩ := splitF_0 hE
    obtain ⟨m, rfl⟩ : ∃ m : Nat, n = (m : Int) := ⟨n.toNat, by omega⟩
    exact .inr ⟨m, rfl, by omega, by omega, l1, l2, hok, fun w h => split_ok a v m w l1 l2 hok (by omega) (by omega) h⟩
  · exact .inl ⟨_, hE, fun w h => split_n a v n _ w hl h rfl hE⟩
theorem split_tells {l : List Int} {m : Nat} (hl1 : 1 ≤ l.length) (hok : l.all okR = true) (hlm : l.length ≤ m) (hm : m ≤ 12) : comb (splitL l m) = l[0] :=
  pickL_tells (ps := List.range m) hm (fun p hp => List.mem_range.mp hp) List.nodup_range hl1 hok (by rw [List.length_range]; exact hlm)
theorem sb_split (w : World) : Calls Try.prog 6 #[.slice (some ⟨w.heap.size, 0, none⟩) 2 2, .int .i64 2] (w.alloc (.cells #[.int .i64 5, .int .i64 2] 3)) fun e w' => ∃ b off cap, e = .returned (.tuple #[.slice (some ⟨b, off, none⟩) 2 cap, .nilIface]) ∧ ShsAt w' b off (splitL [5, 2] 2) ∧ w'.cell? ⟨b, off + 1, none⟩ = some (.int .i64 7) ∧ b < w'.heap.size ∧ Below (w.alloc (.cells #[.int .i64 5, .int .i64 2] 3)).heap.size (w.alloc (.cells #[.int .i64 5, .int .i64 2] 3)) w' := by
  have i1 := IntSl.made w [5, 2] w.heap.size 2 2 #[.int .i64 5, .int .i64 2] 3 rfl rfl rfl
  refine (split_ok [5, 2] _ 2 _ (by decide) (by decide) (by decide) (by decide) (by decide) i1).mono ?_
  rintro e w' ⟨v', rfl, ⟨a, cap, rfl, hs⟩, hb⟩
  obtain ⟨b, off, rfl, hs'⟩ := hs (by rw [splitL_len]; decide)
  have := hs'.cy 0 (by rw [splitL_len]; decide)
  exact ⟨b, off, cap, rfl, hs', this, hs'.lt, hb⟩
theorem sb_comb (b off cap : Nat) (w : World) (h : ShsAt w b off (splitL [5, 2] 2)) : Calls Try.prog 8 #[.slice (some ⟨b, off, none⟩) 2 cap] w fun e w' => e = .returned (.tuple #[.int .i64 5, .nilIface]) ∧ Below w.heap.size w w' := by
  have := combine_ok (splitL [5, 2] 2) (.slice (some ⟨b, off, none⟩) 2 cap) w (by rw [splitL_len]; decide) (by rw [splitL_len]; decide)
    (pickL_ok (l := [5, 2]) (ps := List.range 2) (n := 2) (by decide) (fun p hp => List.mem_range.mp hp)) (pickL_ne (l := [5, 2]) (ps := List.range 2) List.nodup_range) ⟨_, cap, rfl, fun _ => ⟨b, off, rfl, h⟩⟩
  rw [split_tells (l := [5, 2]) (m := 2) (by decide) (by decide) (by decide) (by decide)] at this
  exact this
theorem refTurnQ (n : Int) (w : World) (h1 : 1 ≤ n) (h2 : n < 1013) : Calls Try.prog 9 #[.int .i64 n, .int .i64 1013] w fun e w' => (∃ v : Int, e = .returned (.int .i64 v) ∧ 0 ≤ v ∧ v < 1013 ∧ v * n % 1013 = 1) ∧ w = w' :=
  refTurn_c n 1013 w ⟨20, turn_q h1 h2⟩ (by omega) (by omega) (by omega) (by omega)
theorem own_sl {w : World} {B e size n : Nat} {v : Value} {xs : List Value} (h : w.ownsRow B e size v n xs) : ∃ a cap, v = .slice a n cap := by
  rcases h.2 with ⟨rfl, h0⟩ | ⟨g, cap, cur, rfl, -⟩
  · exact ⟨none, 0, by rw [h0]⟩
  · exact ⟨_, _, rfl⟩
end Go.Proofs.Ytnlaofapjldciaa
