/- Words of the kit's print for this seat, less what this claim's texts do not use. -/
import Derived.Test.YtnihihcopcoabaaWLast
import Derived.Test.YtnihihcopcoabaaWWords
namespace Go.Proofs.YtnihihcopcoabaaW.PrintLast
open Go.Proofs.YtnihihcopcoabaaW.PrintWords (Aside0)
section
variable {md : Region.Mode} {ops : Array Oper} {T : Bool × List (List Nat × List Nat)} {l l' li lj lk : Array Bool} {ds : List Nat} {i j k : Nat}
end
end Go.Proofs.YtnihihcopcoabaaW.PrintLast
