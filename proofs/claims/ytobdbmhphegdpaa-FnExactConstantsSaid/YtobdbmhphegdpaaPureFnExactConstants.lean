/- The program's constants are those of the document. No condition. -/
import Derived.Test.YtobdbmhphegdpaaPFnExactConstantsx1
namespace Go.Proofs.Ytobdbmhphegdpaa.Pure
open Go.RowKit Go.Proofs.Ytobdbmhphegdpaa.PFnExactConstants Go.Proofs.YtobdbmhphegdpaaW.PrintWords Go.Proofs.YtobdbmhphegdpaaW.PrintLast

theorem FnExactConstants : laws_FnExactConstants.Pure := by
  unfold laws_FnExactConstants.Pure
  decide +kernel

end Go.Proofs.Ytobdbmhphegdpaa.Pure
