import Derived.SizedLaws
import Derived.ChangeSlices
namespace Go.Proofs.YtkfldlniknifpaaW.PrintWords
open Go.ChangeShapes Go.WideShapes

end Go.Proofs.YtkfldlniknifpaaW.PrintWords
