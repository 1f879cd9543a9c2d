/- Two rows of different types lie apart. -/
import Derived.Test.YtkfldlniknifpaaWWords
import Derived.Test.YtkfldlniknifpaaWLast
namespace Go.Proofs.YtkfldlniknifpaaW.PrintWords
open Go.RowKit
set_option linter.unusedVariables false
namespace Kd
theorem ty_ne {w : World} {u v : Value} {e1 e2 : TypeId} (h1 : ∀ k, u.ownBlock = some k → ∃ cells, w.heap[k]? = some (.cells cells e1 (0, 0))) (h2 : ∀ k, v.ownBlock = some k → ∃ cells, w.heap[k]? = some (.cells cells e2 (0, 0))) (hne : e1 ≠ e2) : ∀ k, some k = u.ownBlock → some k ≠ v.ownBlock := by
  intro k h3 h4
  obtain ⟨c1, a1⟩ := h1 k h3.symm
  obtain ⟨c2, a2⟩ := h2 k h4.symm
  rw [a1] at a2
  injection a2 with a2
  injection a2 with _ a3 _
  exact hne a3
end Kd
end Go.Proofs.YtkfldlniknifpaaW.PrintWords
