/- Words of the kit's print for this seat, less what this claim's texts do not use. -/
import Derived.Test.YtamdobdmjcgmoaaGreatDoorWInv
import Derived.Test.YtamdobdmjcgmoaaGreatDoorWFootNe
namespace Go.Proofs.YtamdobdmjcgmoaaGreatDoorW.PrintWords
open Go.RowKit
end Go.Proofs.YtamdobdmjcgmoaaGreatDoorW.PrintWords
namespace Go.Proofs.YtamdobdmjcgmoaaGreatDoorW.PrintLast
section
variable {ops : Array Oper} {a : Act} {o og : Oper} {g : Nat} {t : Tmp} {u : Bool}
end
end Go.Proofs.YtamdobdmjcgmoaaGreatDoorW.PrintLast
