/- The pure statement of TextDecodes. -/
import Derived.Test.YtoimmkonlpdjfaaDoorTextDecodes
import Derived.Test.YtoimmkonlpdjfaaDoorPx6
import Derived.Test.YtoimmkonlpdjfaaDoorPx2
namespace Go.Proofs.YtoimmkonlpdjfaaDoor.Px
open Go.RowKit Go.Proofs.YtoimmkonlpdjfaaDoorW.PrintWords Go.Proofs.YtoimmkonlpdjfaaDoorW.PrintLast Go.Proofs.YtoimmkonlpdjfaaDoorW.PrintMore
set_option linter.unusedVariables false
set_option linter.unusedSimpArgs false

theorem awake.now : understudylaw02_awake.f 4 = some true := by decide +kernel
theorem awake.ev' : Ev (fun k => understudylaw02_awake.f k) true := Ev.of (fun k => understudylaw02_awake.mono k) awake.now
theorem TextDecodes_pure (l0 : List Int) (h : l0.length ≤ 140737488351232) (hw : ∀ x ∈ l0, (Lit.int .u8 x).wf = true) : ∃ k, understudylaw02_TextDecodes.f k l0 = some true := by
  have hb := bytes_of_wf hw
  refine Ev.rounds ?_
  unfold understudylaw02_TextDecodes.f
  simp only [Option.bind_some, List.length_nil, List.nil_append]
  refine Ev.congr (fun k => if_pos (by omega)) ?_
  refine Ev.bind (text_Decode.ev l0 hb h) (Ev.bind (ref_Decode.ev l0 hb h) ?_)
  simp only [if_true]
  exact Ev.bind awake.ev' (Ev.now _)
end Go.Proofs.YtoimmkonlpdjfaaDoor.Px
