/- Words of the kit's print for this seat, less what this claim's texts do not use. -/
import Derived.Test.YtoonhpcjcimecaaDoorWN
namespace Go.Proofs.YtoonhpcjcimecaaDoorW.PrintWords
open Go.RowKit
namespace Kd
section
variable {α : Type} {d : Kd α} {W : World} {g n : Nat} {S ok : Nat → Prop} {A : Option Addr} {ad : Addr} {xs : List α}
end
end Kd
end Go.Proofs.YtoonhpcjcimecaaDoorW.PrintWords
