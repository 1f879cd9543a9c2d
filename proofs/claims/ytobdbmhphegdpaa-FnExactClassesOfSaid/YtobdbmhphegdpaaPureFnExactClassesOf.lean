/- ClassesOf of the program returns what the reference returns. No condition. -/
import Derived.Test.YtobdbmhphegdpaaPFnExactClassesOfx1
namespace Go.Proofs.Ytobdbmhphegdpaa.Pure
open Go.RowKit Go.Proofs.Ytobdbmhphegdpaa.PFnExactClassesOf Go.Proofs.YtobdbmhphegdpaaW.PrintWords Go.Proofs.YtobdbmhphegdpaaW.PrintLast

theorem FnExactClassesOf : laws_FnExactClassesOf.Pure := by
  refine ⟨100, ?_⟩
  decide +kernel

end Go.Proofs.Ytobdbmhphegdpaa.Pure
