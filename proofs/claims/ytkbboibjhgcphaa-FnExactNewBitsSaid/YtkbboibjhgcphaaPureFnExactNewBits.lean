/- NewBits of the program returns what the reference returns, for every length: finite checks for 0 to 96, by reasoning for the others. No condition. -/
import Derived.Test.YtkbboibjhgcphaaPFnExactNewBitsx2
namespace Go.Proofs.Ytkbboibjhgcphaa.Pure
open Go.RowKit Go.Proofs.Ytkbboibjhgcphaa.PFnExactNewBits Go.Proofs.YtkbboibjhgcphaaW.PrintWords Go.Proofs.YtkbboibjhgcphaaW.PrintLast

theorem inside : ∀ m : Fin 97, laws_FnExactNewBits.f 20 (m.val : Int) = some true := by decide +kernel

theorem l1In_no (a : Int) (h : ¬ (0 ≤ a ∧ a < 97)) : spec_l1In.f a 0 96 = some false := by
  unfold spec_l1In.f
  by_cases h0 : a ≥ 0
  · rw [if_pos h0]
    simp only [Option.some.injEq, decide_eq_false_iff_not]
    omega
  · rw [if_neg h0]

theorem within_no (a : Int) (h : ¬ (0 ≤ a ∧ a < 97)) : impl_within.f a 0 96 = some false := by
  unfold impl_within.f
  by_cases h0 : a ≥ 0
  · rw [if_pos h0]
    simp only [Option.some.injEq, decide_eq_false_iff_not]
    omega
  · rw [if_neg h0]

theorem outside (a : Int) (hs : spec_NewBits.f a = some (0, [], false)) (hi : impl_NewBits.f a = some (0, [], false)) : laws_FnExactNewBits.f 20 a = some true := by
  have he : laws_eqBits.f 20 0 [] 0 [] = some true := by decide +kernel
  have he1 : laws_eqBits.f 19 0 [] 0 [] = some true := by decide +kernel
  have hm : laws_markBits.f 19 0 [] 1 = some (1, []) := by decide +kernel
  have hh : laws_heldBits.f 19 0 [] 1 = some 1 := by decide +kernel
  have hh1 : laws_heldBits.f 18 0 [] 1 = some 1 := by decide +kernel
  unfold laws_FnExactNewBits.f
  simp [laws_FnExactNewBits.j0, laws_FnExactNewBits.j1, hs, hi, he, he1, hm, hh, hh1]

theorem FnExactNewBits : laws_FnExactNewBits.Pure := by
  intro a0 _
  refine ⟨20, ?_⟩
  by_cases h : 0 ≤ a0 ∧ a0 < 97
  · obtain ⟨n, rfl⟩ : ∃ n : Nat, a0 = n := ⟨a0.toNat, by omega⟩
    exact inside ⟨n, by omega⟩
  · apply outside
    · unfold spec_NewBits.f
      rw [l1In_no a0 h]
      rfl
    · unfold impl_NewBits.f
      rw [within_no a0 h]
      rfl

end Go.Proofs.Ytkbboibjhgcphaa.Pure
