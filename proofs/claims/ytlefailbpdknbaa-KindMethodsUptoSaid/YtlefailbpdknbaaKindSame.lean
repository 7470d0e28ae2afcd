/- The same types are the same. -/
import Derived.Test.YtlefailbpdknbaaKindMath
import Derived.Test.YtlefailbpdknbaaPx8
namespace Go.Proofs.Ytlefailbpdknbaa.Px
open Go.RowKit Go.Proofs.YtlefailbpdknbaaW.PrintWords Go.Proofs.YtlefailbpdknbaaW.PrintLast Go.Proofs.YtlefailbpdknbaaW.PrintMore
set_option linter.unusedVariables false
theorem same_l0.ev (l : List S24) (hl : l.length ≤ 1099511627776) : ∀ n i, l.length - i ≤ n → i ≤ l.length → Ev (fun k => understudylaw08_same.l0 k l l (i : Int)) true := by
  intro n
  induction n with
  | zero =>
    intro i h1 h2
    refine Ev.step (f := fun _ => some true) (fun k => ?_) (Ev.now _)
    simp only [understudylaw08_same.l0]
    rw [if_neg (by omega)]
  | succ n ih =>
    intro i h1 h2
    by_cases hi : i < l.length
    · refine Ev.step (fun k => ?_) (ih (i + 1) (by omega) (by omega))
      simp only [understudylaw08_same.l0]
      rw [if_pos (by omega), if_pos (by omega), if_pos (by omega), if_neg (by simp), w64s i (by omega)]
    · exact ih i (by omega) (by omega)
theorem same.ev (l : List S24) (hl : l.length ≤ 1099511627776) : Ev (fun k => understudylaw08_same.f k l l) true := by
  unfold understudylaw08_same.f
  simp only [if_true]
  exact same_l0.ev l hl _ 0 (Nat.le_refl _) (by omega)
end Go.Proofs.Ytlefailbpdknbaa.Px
