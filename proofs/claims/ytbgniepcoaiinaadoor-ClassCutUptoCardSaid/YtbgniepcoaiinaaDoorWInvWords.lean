/- Words of the kit's print for this seat, less what this claim's texts do not use. -/
import Derived.Test.YtbgniepcoaiinaaDoorWInv
import Derived.Test.YtbgniepcoaiinaaDoorWFootNe
namespace Go.Proofs.YtbgniepcoaiinaaDoorW.PrintWords
open Go.RowKit
end Go.Proofs.YtbgniepcoaiinaaDoorW.PrintWords
namespace Go.Proofs.YtbgniepcoaiinaaDoorW.PrintLast
section
variable {ops : Array Oper} {a : Act} {o og : Oper} {g : Nat} {t : Tmp} {u : Bool}
end
end Go.Proofs.YtbgniepcoaiinaaDoorW.PrintLast
