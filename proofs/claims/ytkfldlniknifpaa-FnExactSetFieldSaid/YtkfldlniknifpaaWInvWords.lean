import Derived.Test.YtkfldlniknifpaaWInv
import Derived.Test.YtkfldlniknifpaaWFootNe
namespace Go.Proofs.YtkfldlniknifpaaW.PrintWords
open Go.RowKit

end Go.Proofs.YtkfldlniknifpaaW.PrintWords
namespace Go.Proofs.YtkfldlniknifpaaW.PrintLast
section
variable {ops : Array Oper} {a : Act} {o og : Oper} {g : Nat} {t : Tmp} {u : Bool}

end
end Go.Proofs.YtkfldlniknifpaaW.PrintLast
