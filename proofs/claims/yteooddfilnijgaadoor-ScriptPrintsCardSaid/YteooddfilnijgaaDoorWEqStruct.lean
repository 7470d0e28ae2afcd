/- Words of the kit's print for this seat, less what this claim's texts do not use. -/
import Derived.Test.YteooddfilnijgaaDoorWWords
import Derived.Laws.StructEq
namespace Go.Proofs.YteooddfilnijgaaDoorW.PrintWords
open Go.RowKit
section
variable {P : Program} {d : Nat} {xs ys : Array Value} {f : Field} {fs : List Field} {a b : Value} {r s : Bool} {w : World}
end
end Go.Proofs.YteooddfilnijgaaDoorW.PrintWords
