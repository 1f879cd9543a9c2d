import Derived.Test.YtmchgcilpgbalaaWInv
import Derived.Test.YtmchgcilpgbalaaWFootNe
namespace Go.Proofs.YtmchgcilpgbalaaW.PrintWords
open Go.RowKit

end Go.Proofs.YtmchgcilpgbalaaW.PrintWords
namespace Go.Proofs.YtmchgcilpgbalaaW.PrintLast
section
variable {ops : Array Oper} {a : Act} {o og : Oper} {g : Nat} {t : Tmp} {u : Bool}

end
end Go.Proofs.YtmchgcilpgbalaaW.PrintLast
