/- Rows of rows told apart by when they were made. -/
import Derived.Test.YtkfldlniknifpaaWWords
import Derived.Test.YtkfldlniknifpaaWLast
import Derived.Test.YtkfldlniknifpaaWApart
namespace Go.Proofs.YtkfldlniknifpaaW.PrintWords
open Go.RowKit
set_option linter.unusedVariables false
theorem size_name {w w1 : World} (hb : Below w.heap.size w w1) : ∃ n : Nat, Aside0 (w.heap.size = n) := ⟨_, ⟨rfl⟩⟩
namespace Kd
theorem S_hi {α : Type} {d : Kd α} {e base n : Nat} {W : World} {ok : Nat → Prop} {v : Value} {xs : List α} (h : d.S e W base ok v xs) (hn : W.heap.size = n) : d.S e W base (fun k => ok k ∧ k < n) v xs := S_mono (S_bound h) (fun k hk => ⟨hk.1, hn ▸ hk.2.2.1⟩)
theorem S_lo {α : Type} {d : Kd α} {e n : Nat} {W w1 : World} {ok : Nat → Prop} {v : Value} {xs : List α} (h : d.S e w1 W.heap.size ok v xs) (hn : W.heap.size = n) : d.S e w1 W.heap.size (fun k => ok k ∧ n ≤ k) v xs := S_mono (S_bound h) (fun k hk => ⟨hk.1, hn ▸ hk.2.1⟩)
end Kd
end Go.Proofs.YtkfldlniknifpaaW.PrintWords
