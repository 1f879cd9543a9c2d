/- SlotsIn of the program returns what the reference returns, for every class number: finite checks for 0 to 40, by reasoning for the others. No condition. -/
import Derived.Test.YtobdbmhphegdpaaPFnExactSlotsInx1
namespace Go.Proofs.Ytobdbmhphegdpaa.Pure
open Go.RowKit Go.Proofs.Ytobdbmhphegdpaa.PFnExactSlotsIn Go.Proofs.YtobdbmhphegdpaaW.PrintWords Go.Proofs.YtobdbmhphegdpaaW.PrintLast

def classesL : List Int := [1, 2, 3, 4, 5, 6, 7, 8, 9, 10, 11, 12, 13, 14, 15, 16, 18, 20, 22, 24, 27, 30, 33, 37, 41, 46, 51, 57, 64, 72, 81, 91, 102, 114, 128, 144, 162, 182, 204, 229, 256]

theorem spec_classes : spec_ClassesOf.f 60 = some classesL := by decide +kernel

theorem impl_classes60 : impl_classes.f 60 = some classesL := by decide +kernel

theorem spec_no (a0 : Int) (h : ¬ (0 ≤ a0 ∧ a0 < 41)) : spec_l1Class.f 60 a0 = some false := by
  unfold spec_l1Class.f
  by_cases h0 : a0 ≥ 0
  · rw [if_pos h0, spec_classes]
    simp only [Option.bind_some]
    have hl : (classesL.length : Int) = 41 := by decide +kernel
    rw [hl]
    simp only [Option.some.injEq, decide_eq_false_iff_not]
    omega
  · rw [if_neg h0]

theorem impl_no (a0 : Int) (h : ¬ (0 ≤ a0 ∧ a0 < 41)) : impl_isClass.f 60 a0 = some false := by
  unfold impl_isClass.f
  rw [impl_classes60]
  have hl : wrap64 ((classesL.length : Int) - 1) = 40 := by decide +kernel
  simp only [Option.bind_some, hl]
  unfold impl_within.f
  by_cases h0 : a0 ≥ 0
  · rw [if_pos h0]
    simp only [Option.bind_some, Option.some.injEq, decide_eq_false_iff_not]
    omega
  · rw [if_neg h0]
    rfl

theorem inside : ∀ m : Fin 41, laws_FnExactSlotsIn.f 60 (m.val : Int) = some true := by decide +kernel

theorem FnExactSlotsIn : laws_FnExactSlotsIn.Pure := by
  intro a0 _
  refine ⟨60, ?_⟩
  by_cases h : 0 ≤ a0 ∧ a0 < 41
  · obtain ⟨n, rfl⟩ : ∃ n : Nat, a0 = n := ⟨a0.toNat, by omega⟩
    exact inside ⟨n, by omega⟩
  · unfold laws_FnExactSlotsIn.f spec_SlotsIn.f impl_SlotsIn.f
    rw [spec_no a0 h, impl_no a0 h]
    rfl

end Go.Proofs.Ytobdbmhphegdpaa.Pure
