/- Words of the kit's print for this seat, less what this claim's texts do not use. -/
import Derived.Test.YtnihihcopcoabaaWInv
import Derived.Test.YtnihihcopcoabaaWFootNe
namespace Go.Proofs.YtnihihcopcoabaaW.PrintWords
open Go.RowKit
end Go.Proofs.YtnihihcopcoabaaW.PrintWords
namespace Go.Proofs.YtnihihcopcoabaaW.PrintLast
section
variable {ops : Array Oper} {a : Act} {o og : Oper} {g : Nat} {t : Tmp} {u : Bool}
end
end Go.Proofs.YtnihihcopcoabaaW.PrintLast
