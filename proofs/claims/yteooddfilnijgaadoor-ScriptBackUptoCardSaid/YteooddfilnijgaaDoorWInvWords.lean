/- Words of the kit's print for this seat, less what this claim's texts do not use. -/
import Derived.Test.YteooddfilnijgaaDoorWInv
import Derived.Test.YteooddfilnijgaaDoorWFootNe
namespace Go.Proofs.YteooddfilnijgaaDoorW.PrintWords
open Go.RowKit
end Go.Proofs.YteooddfilnijgaaDoorW.PrintWords
namespace Go.Proofs.YteooddfilnijgaaDoorW.PrintLast
section
variable {ops : Array Oper} {a : Act} {o og : Oper} {g : Nat} {t : Tmp} {u : Bool}
end
end Go.Proofs.YteooddfilnijgaaDoorW.PrintLast
