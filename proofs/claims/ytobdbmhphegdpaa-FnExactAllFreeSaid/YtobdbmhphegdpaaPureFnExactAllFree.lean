/- AllFree of the program returns what the reference returns. No condition. -/
import Derived.Test.YtobdbmhphegdpaaPFnExactAllFreex1
namespace Go.Proofs.Ytobdbmhphegdpaa.Pure
open Go.RowKit Go.Proofs.Ytobdbmhphegdpaa.PFnExactAllFree Go.Proofs.YtobdbmhphegdpaaW.PrintWords Go.Proofs.YtobdbmhphegdpaaW.PrintLast

theorem FnExactAllFree : laws_FnExactAllFree.Pure := by
  refine ⟨20, ?_⟩
  decide +kernel

end Go.Proofs.Ytobdbmhphegdpaa.Pure
