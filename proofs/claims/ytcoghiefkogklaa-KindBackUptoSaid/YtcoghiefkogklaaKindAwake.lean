/- That the program computes at all. -/
import Derived.Test.YtcoghiefkogklaaKindMath
import Derived.Test.YtcoghiefkogklaaPx6
namespace Go.Proofs.Ytcoghiefkogklaa.Px
open Go.RowKit Go.Proofs.YtcoghiefkogklaaW.PrintWords Go.Proofs.YtcoghiefkogklaaW.PrintLast Go.Proofs.YtcoghiefkogklaaW.PrintMore
set_option linter.unusedVariables false
theorem FieldV_awake : FieldV [91, 74] = ((5, BA [], 1, 2, 0), 0) := by decide +kernel
theorem kind_awake.ev : Ev (fun k => understudylaw08_awake.f k) true := by
  unfold understudylaw08_awake.f
  have h := kind_Field.ev [91, 74] (by decide)
  rw [FieldV_awake] at h
  refine Ev.bind h ?_
  exact Ev.now _
end Go.Proofs.Ytcoghiefkogklaa.Px
