/- Words of the kit's print for this seat, less what this claim's texts do not use. -/
import Derived.Test.YtoonhpcjcimecaaDoorWTab
namespace Go.Proofs.YtoonhpcjcimecaaDoorW.PrintLast
section
variable {P : Program} {ops : Array Oper} {Q : Exit → Act → World → Prop} {md : Region.Mode} {S : World → Prop} {ds : List Nat} {T : Bool × List (List Nat × List Nat)}
end
end Go.Proofs.YtoonhpcjcimecaaDoorW.PrintLast
