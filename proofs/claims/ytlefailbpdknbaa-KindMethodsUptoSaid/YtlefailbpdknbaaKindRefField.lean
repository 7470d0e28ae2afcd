/- The reference's Field of a whole text. -/
import Derived.Test.YtlefailbpdknbaaKindRef
import Derived.Test.YtlefailbpdknbaaPx8
namespace Go.Proofs.Ytlefailbpdknbaa.Px
open Go.RowKit Go.Proofs.YtlefailbpdknbaaW.PrintWords Go.Proofs.YtlefailbpdknbaaW.PrintLast Go.Proofs.YtlefailbpdknbaaW.PrintMore
set_option linter.unusedVariables false
set_option linter.unusedSimpArgs false
theorem ref_Field.ev (l : List UInt8) (hl : l.length ≤ 4294967280) : Ev (fun k => understudyref08_Field.f k (BA l)) (fAns (FieldV l)) := by
  unfold understudyref08_Field.f
  refine Ev.bind (ref_field.ev l hl) ?_
  unfold FieldV
  cases e : fieldV l with
  | none => simp only [rAns, Bool.false_eq_true, if_false]; exact Ev.now _
  | some q =>
    obtain ⟨t, u⟩ := q
    simp only [rAns, if_true]
    simp only [BA_list]
    cases u with
    | nil => simp only [if_true]; exact Ev.now _
    | cons c u => simp only [if_neg (List.cons_ne_nil c u)]; exact Ev.now _
end Go.Proofs.Ytlefailbpdknbaa.Px
