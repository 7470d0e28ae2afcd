/- Words of the kit's print for this seat, less what this claim's texts do not use. -/
import Derived.Test.YtpofikjkccljlaaGreatDoorWInv
import Derived.Test.YtpofikjkccljlaaGreatDoorWFootNe
namespace Go.Proofs.YtpofikjkccljlaaGreatDoorW.PrintWords
open Go.RowKit
end Go.Proofs.YtpofikjkccljlaaGreatDoorW.PrintWords
namespace Go.Proofs.YtpofikjkccljlaaGreatDoorW.PrintLast
section
variable {ops : Array Oper} {a : Act} {o og : Oper} {g : Nat} {t : Tmp} {u : Bool}
end
end Go.Proofs.YtpofikjkccljlaaGreatDoorW.PrintLast
