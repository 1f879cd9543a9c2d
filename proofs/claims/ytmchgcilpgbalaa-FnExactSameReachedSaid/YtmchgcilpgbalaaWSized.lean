import Derived.SizedLaws
import Derived.ChangeSlices
namespace Go.Proofs.YtmchgcilpgbalaaW.PrintWords
open Go.ChangeShapes Go.WideShapes

end Go.Proofs.YtmchgcilpgbalaaW.PrintWords
