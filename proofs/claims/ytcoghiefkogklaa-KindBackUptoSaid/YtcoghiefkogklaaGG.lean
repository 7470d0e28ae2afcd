/- What the package-level variables hold, as a fact of the world that stays as the world grows: internal/bytealg.MaxLen holds some int. -/
import Derived.Test.YtcoghiefkogklaaPx0
import Derived.Test.YtcoghiefkogklaaShelf
namespace Go.Proofs.Ytcoghiefkogklaa.Px
open Go.RowKit Go.Proofs.YtcoghiefkogklaaW.PrintWords Go.Proofs.YtcoghiefkogklaaW.PrintLast Go.Proofs.YtcoghiefkogklaaW.PrintMore

structure GG (w : World) : Prop where mk ::
  maxLen : ∃ m, w.cell? ⟨Try.laysM145_ren.g 1, 0, none⟩ = some (.int .i64 m)
theorem GG.below {w w' : World} (h : GG w) (hb : Below w.heap.size w w') : GG w' := by
  obtain ⟨m, hm⟩ := h.maxLen
  exact ⟨m, pw_cell_below hb hm⟩
theorem GG.of_shaped {w : World} (h : w.ShapedOpen Try.prog) : GG w := ⟨Try.laysM145.s1_3 w h⟩
end Go.Proofs.Ytcoghiefkogklaa.Px
