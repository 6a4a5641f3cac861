/- Numbers modulo 1013 that are solved for. No program. -/
import Derived.Test.YtebomakihdjllaaDoorSh
namespace Go.Proofs.YtebomakihdjllaaDoor
theorem q_solve {h : Int} (d : Int) (h1 : 1 ≤ h) (h2 : h < 1013) : ∃ n : Int, 0 ≤ n ∧ n < 1013 ∧ (h * n) % 1013 = d % 1013 := by
  have hi := qmul_inv (qi_ne h1 h2)
  refine ⟨((qinv (qi h) * qi d).val : Int), by omega, by have := (qinv (qi h) * qi d).isLt; omega, ?_⟩
  apply qi_eq.mp
  have e : qi ((qinv (qi h) * qi d).val : Int) = qinv (qi h) * qi d := by
    symm; apply qi_ext; have := (qinv (qi h) * qi d).isLt; omega
  rw [qi_mul, e]
  generalize qinv (qi h) = i at *
  have : qi h * (i * qi d) = (qi h * i) * qi d := by grobner
  rw [this, hi]; grobner
theorem q_inj {h n m : Int} (h1 : 1 ≤ h) (h2 : h < 1013) (e : (h * n) % 1013 = (h * m) % 1013) : n % 1013 = m % 1013 := by
  have := qi_eq.mpr e
  rw [qi_mul, qi_mul] at this
  exact qi_eq.mp (qcancel (qi_ne h1 h2) this)
end Go.Proofs.YtebomakihdjllaaDoor
