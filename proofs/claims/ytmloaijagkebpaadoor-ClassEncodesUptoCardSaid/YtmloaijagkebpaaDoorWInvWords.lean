/- Words of the kit's print for this seat, less what this claim's texts do not use. -/
import Derived.Test.YtmloaijagkebpaaDoorWInv
import Derived.Test.YtmloaijagkebpaaDoorWFootNe
namespace Go.Proofs.YtmloaijagkebpaaDoorW.PrintWords
open Go.RowKit
end Go.Proofs.YtmloaijagkebpaaDoorW.PrintWords
namespace Go.Proofs.YtmloaijagkebpaaDoorW.PrintLast
section
variable {ops : Array Oper} {a : Act} {o og : Oper} {g : Nat} {t : Tmp} {u : Bool}
end
end Go.Proofs.YtmloaijagkebpaaDoorW.PrintLast
