/- Words of the kit's print for this seat, less what this claim's texts do not use. -/
import Derived.Test.YtnihihcopcoabaaWWords
namespace Go.Proofs.YtnihihcopcoabaaW.PrintWords
open Go.RowKit
section
variable {P : Program} {ops : Array Oper} {rest : List Oper} {o : Oper} {a : Act} {Q : Exit → Act → World → Prop} {W : World}
end
end Go.Proofs.YtnihihcopcoabaaW.PrintWords
