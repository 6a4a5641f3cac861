/- Walk of share.Split, refused. -/
import Derived.Test.YtnlaofapjldciaaDoorSpl
namespace Go.Proofs.YtnlaofapjldciaaDoor
open Go.RowKit
set_option maxRecDepth 100000
set_option linter.unusedVariables false
set_option linter.unusedSimpArgs false
/-- What is wrong with a secret to be split; 0: nothing. -/
def splitF (l : List Int) (n : Int) : Int := if 12 < l.length then 4 else if l.length = 0 ∨ l.all okR = false ∨ n < 1 ∨ 12 < n then 1 else 0
theorem splitF_0 {l : List Int} {n : Int} (h : splitF l n = 0) : 1 ≤ l.length ∧ l.length ≤ 12 ∧ l.all okR = true ∧ 1 ≤ n ∧ n ≤ 12 := by
  unfold splitF at h
  split at h
  · exact absurd h (by decide)
  split at h
  · exact absurd h (by decide)
  · rename_i g1 g2
    rw [not_or, not_or, not_or] at g2
    exact ⟨by omega, by omega, by cases e : l.all okR with | true => rfl | false => exact absurd e g2.2.1, by omega, by omega⟩
set_option maxHeartbeats 2000000 in
theorem split_n (l : List Int) (v : Value) (n E : Int) (w : World) (hl : l.length ≤ 9223372036854775807) (h : IntSl w v l) (hE : Hid (splitF l n = E)) (h0 : E ≠ 0) :
    Calls Tryd.prog 21 #[v, .int .i64 n] w fun e w' => e = .returned (.tuple #[.slice none 0 0, .iface 125 (.int .i64 E)]) ∧ Below w.heap.size w w' := by
  have hC := contF_s l v w hl h
  have hE := hE.out
  unfold splitF at hE
  obtain ⟨a, cap, rfl, -⟩ := h
  split at hE
  · rename_i g
    subst hE
    have hd : decide ((12 : Int) < (l.length : Int)) = true := by rw [decide_eq_true_eq]; omega
    clear hC
    go_enter Tryd.func21, Tryd.ntmps21
    go_wp2
    go_ret2
    exact ⟨rfl, Below.refl _ _⟩
  split at hE
  · rename_i g1 g2
    subst hE
    have hd : decide ((12 : Int) < (l.length : Int)) = false := by rw [decide_eq_false_iff_not]; omega
    by_cases z0 : l.length = 0
    · have hd2 : ((l.length : Int) == 0) = true := by rw [beq_iff_eq]; omega
      clear hC g2 z0
      go_enter Tryd.func21, Tryd.ntmps21
      go_wp2
      go_ret2
      exact ⟨rfl, Below.refl _ _⟩
    have hd2 : ((l.length : Int) == 0) = false := by rw [beq_eq_false_iff_ne]; omega
    cases ha : l.all okR with
    | false =>
      rw [ha] at hC
      replace hC := Lib.hid hC
      clear g2 z0 ha
      go_enter Tryd.func21, Tryd.ntmps21
      go_wp2_with fail
      refine hC.out.mono ?_; rintro e w' ⟨rfl, rfl⟩
      rw [Bool.not_false]
      go_wp2
      go_ret2
      exact ⟨rfl, Below.refl _ _⟩
    | true =>
      rw [ha] at hC
      replace hC := Lib.hid hC
      by_cases n1 : n < 1
      · clear g2 z0 ha
        go_enter Tryd.func21, Tryd.ntmps21
        go_wp2_with fail
        refine hC.out.mono ?_; rintro e w' ⟨rfl, rfl⟩
        rw [Bool.not_true]
        go_wp2
        go_ret2
        exact ⟨rfl, Below.refl _ _⟩
      · have n2 : 12 < n := by
          rcases g2 with g | g | g | g
          · exact absurd g z0
          · rw [ha] at g; cases g
          · exact absurd g n1
          · exact g
        clear g2 z0 ha
        go_enter Tryd.func21, Tryd.ntmps21
        go_wp2_with fail
        refine hC.out.mono ?_; rintro e w' ⟨rfl, rfl⟩
        rw [Bool.not_true]
        go_wp2
        go_ret2
        exact ⟨rfl, Below.refl _ _⟩
  · exact absurd hE.symm h0
theorem splitL_get (l : List Int) (n i : Nat) (h : i < (splitL l n).length) : (splitL l n)[i] = (((i + 1 : Nat) : Int), val ((i + 1 : Nat) : Int) l) := by simp [splitL]
theorem val_bd (x : Int) (l : List Int) : 0 ≤ val x l ∧ val x l < 1013 := by
  cases l with
  | nil => exact ⟨Int.le_refl 0, by show (0 : Int) < 1013; decide⟩
  | cons c l => exact ⟨Int.emod_nonneg _ (by decide), Int.emod_lt_of_pos _ (by decide)⟩
end Go.Proofs.YtnlaofapjldciaaDoor
