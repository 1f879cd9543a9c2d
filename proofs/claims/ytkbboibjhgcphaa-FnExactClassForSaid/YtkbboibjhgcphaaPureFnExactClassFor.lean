/- ClassFor of the program returns what the reference returns, for every size: finite checks for 1 to 256, by reasoning for the others. No condition. -/
import Derived.Test.YtkbboibjhgcphaaPFnExactClassForx2
namespace Go.Proofs.Ytkbboibjhgcphaa.Pure
open Go.RowKit Go.Proofs.Ytkbboibjhgcphaa.PFnExactClassFor Go.Proofs.YtkbboibjhgcphaaW.PrintWords Go.Proofs.YtkbboibjhgcphaaW.PrintLast

theorem l1In_no (a : Int) (h : ¬ (1 ≤ a ∧ a ≤ 256)) : spec_l1In.f a 1 256 = some false := by
  unfold spec_l1In.f
  by_cases h0 : a ≥ 1
  · rw [if_pos h0]
    simp only [Option.some.injEq, decide_eq_false_iff_not]
    omega
  · rw [if_neg h0]

theorem within_no (a : Int) (h : ¬ (1 ≤ a ∧ a ≤ 256)) : impl_within.f a 1 256 = some false := by
  unfold impl_within.f
  by_cases h0 : a ≥ 1
  · rw [if_pos h0]
    simp only [Option.some.injEq, decide_eq_false_iff_not]
    omega
  · rw [if_neg h0]

theorem inside : ∀ m : Fin 256, laws_FnExactClassFor.f 60 ((m.val + 1 : Nat) : Int) = some true := by decide +kernel

theorem spec_no (a : Int) (h : ¬ (1 ≤ a ∧ a ≤ 256)) : spec_ClassFor.f 60 a = some (0, 0, false) := by
  unfold spec_ClassFor.f
  rw [l1In_no a h]
  rfl

theorem impl_no (a : Int) (h : ¬ (1 ≤ a ∧ a ≤ 256)) : impl_ClassFor.f 60 a = some (0, 0, false) := by
  unfold impl_ClassFor.f impl_isSize.f
  rw [within_no a h]
  rfl

theorem FnExactClassFor : laws_FnExactClassFor.Pure := by
  intro a0 _
  refine ⟨60, ?_⟩
  by_cases h : 1 ≤ a0 ∧ a0 ≤ 256
  · obtain ⟨n, rfl⟩ : ∃ n : Nat, a0 = ((n + 1 : Nat) : Int) := ⟨a0.toNat - 1, by omega⟩
    exact inside ⟨n, by omega⟩
  · unfold laws_FnExactClassFor.f
    rw [spec_no a0 h, impl_no a0 h]
    rfl

end Go.Proofs.Ytkbboibjhgcphaa.Pure
