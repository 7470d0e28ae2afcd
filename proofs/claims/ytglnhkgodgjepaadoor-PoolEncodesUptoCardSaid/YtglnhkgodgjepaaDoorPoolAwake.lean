/- Layer 4's law: the program computes at all. -/
import Derived.Test.YtglnhkgodgjepaaDoorPoolIs
import Derived.Test.YtglnhkgodgjepaaDoorPx2
namespace Go.Proofs.YtglnhkgodgjepaaDoor.Px
open Go.RowKit Go.Proofs.YtglnhkgodgjepaaDoorW.PrintWords Go.Proofs.YtglnhkgodgjepaaDoorW.PrintLast Go.Proofs.YtglnhkgodgjepaaDoorW.PrintMore
set_option linter.unusedVariables false
set_option linter.unusedSimpArgs false
theorem pool_awake.eq : understudylaw04_awake.f = some true := by
  unfold understudylaw04_awake.f
  rw [pool_Text.eq, Option.bind_some]
  have h : textV [(⟨0, (⟨#[]⟩ : ByteArray), 0, 0, 0⟩ : S33), (⟨1, (⟨#[65]⟩ : ByteArray), 0, 0, 0⟩ : S33)] 1 = ((⟨#[65]⟩ : ByteArray), true) := rfl
  rw [h, Lib.toList_data]
  rfl
end Go.Proofs.YtglnhkgodgjepaaDoor.Px
