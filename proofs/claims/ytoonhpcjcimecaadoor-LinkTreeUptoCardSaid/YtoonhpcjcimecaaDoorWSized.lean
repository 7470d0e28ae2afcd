/- Words of the kit's print for this seat, less what this claim's texts do not use. -/
import Derived.SizedLaws
import Derived.ChangeSlices
namespace Go.Proofs.YtoonhpcjcimecaaDoorW.PrintWords
open Go.ChangeShapes Go.WideShapes
end Go.Proofs.YtoonhpcjcimecaaDoorW.PrintWords
