/- Words of the kit's print for this seat, less what this claim's texts do not use. -/
import Derived.Test.YtoonhpcjcimecaaDoorWInv
import Derived.Test.YtoonhpcjcimecaaDoorWFootNe
namespace Go.Proofs.YtoonhpcjcimecaaDoorW.PrintWords
open Go.RowKit
end Go.Proofs.YtoonhpcjcimecaaDoorW.PrintWords
namespace Go.Proofs.YtoonhpcjcimecaaDoorW.PrintLast
section
variable {ops : Array Oper} {a : Act} {o og : Oper} {g : Nat} {t : Tmp} {u : Bool}
end
end Go.Proofs.YtoonhpcjcimecaaDoorW.PrintLast
