/- What the package-level variables hold, as a fact of the world that stays as the world grows. -/
import Derived.Test.YtoimmkonlpdjfaaDoorPx0
import Derived.Test.YtoimmkonlpdjfaaDoorShelf
import Derived.Shelf.Unicode.DecodeSlow
import Derived.Lib.ValidU
namespace Go.Proofs.YtoimmkonlpdjfaaDoor.Px
open Go.RowKit Go.Proofs.YtoimmkonlpdjfaaDoorW.PrintWords Go.Proofs.YtoimmkonlpdjfaaDoorW.PrintLast Go.Proofs.YtoimmkonlpdjfaaDoorW.PrintMore

structure GG (w : World) : Prop where mk ::
  tabs : Lib.Utf8Tabs (Tryd.laysValid_ren.g 3) (Tryd.laysValid_ren.g 4) w
theorem GG.below {w w' : World} (h : GG w) (hb : Below w.heap.size w w') : GG w' := ⟨Utf8Tabs_below h.tabs hb⟩
end Go.Proofs.YtoimmkonlpdjfaaDoor.Px
