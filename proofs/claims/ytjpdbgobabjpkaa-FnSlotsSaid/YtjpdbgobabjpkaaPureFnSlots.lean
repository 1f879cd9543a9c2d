/- For every drawn class the program's slots, pages and tails are the reference's, and slots fill the pages of a span, with at most an eighth of the words left over unless no number of pages below the limit achieves this: finite checks for the classes 0 to 40, by reasoning for all other numbers. No condition. -/
import Derived.Test.YtjpdbgobabjpkaaQFnSlotsx2
namespace Go.Proofs.Ytjpdbgobabjpkaa.Pure
set_option linter.unusedVariables false
set_option linter.unusedSimpArgs false
open Go.RowKit Go.Proofs.Ytjpdbgobabjpkaa.QFnSlots Go.Proofs.YtjpdbgobabjpkaaW.PrintWords Go.Proofs.YtjpdbgobabjpkaaW.PrintLast Go.Proofs.YtjpdbgobabjpkaaW.PrintMore

def classesL : List Int := [1, 2, 3, 4, 5, 6, 7, 8, 9, 10, 11, 12, 13, 14, 15, 16, 18, 20, 22, 24, 27, 30, 33, 37, 41, 46, 51, 57, 64, 72, 81, 91, 102, 114, 128, 144, 162, 182, 204, 229, 256]
theorem spec_classes : spec_ClassesOf.f 60 = some classesL := by decide +kernel
theorem impl_classes60 : impl_classes.f 60 = some classesL := by decide +kernel
theorem spec_no (a0 : Int) (h : ¬ (0 ≤ a0 ∧ a0 < 41)) : spec_l1Class.f 60 a0 = some false := by
  unfold spec_l1Class.f
  by_cases h0 : a0 ≥ 0
  · rw [if_pos h0, spec_classes]
    simp only [Option.bind_some]
    have hl : (classesL.length : Int) = 41 := by decide +kernel
    rw [hl]
    simp only [Option.some.injEq, decide_eq_false_iff_not]
    omega
  · rw [if_neg h0]
theorem impl_no (a0 : Int) (h : ¬ (0 ≤ a0 ∧ a0 < 41)) : impl_isClass.f 60 a0 = some false := by
  unfold impl_isClass.f
  rw [impl_classes60]
  have hl : wrap64 ((classesL.length : Int) - 1) = 40 := by decide +kernel
  simp only [Option.bind_some, hl]
  unfold impl_within.f
  by_cases h0 : a0 ≥ 0
  · rw [if_pos h0]
    simp only [Option.bind_some, Option.some.injEq, decide_eq_false_iff_not]
    omega
  · rw [if_neg h0]
    rfl
def rest (t169 : Int) : Option Bool := ((impl_SlotsIn.f 60 t169).bind fun bt170 => ((spec_SlotsIn.f 60 t169).bind fun bt172 => ((impl_PagesFor.f 60 t169).bind fun bt174 => ((spec_PagesFor.f 60 t169).bind fun bt176 => ((impl_TailOf.f 60 t169).bind fun bt178 => ((spec_TailOf.f 60 t169).bind fun bt180 => (if (bt170.2 != bt172.2) = true then (some false) else (if bt170.1 = bt172.1 then (if (bt174.2 != bt176.2) = true then (some false) else (if bt174.1 = bt176.1 then (if (bt178.2 != bt180.2) = true then (some false) else (if bt178.1 = bt180.1 then (if bt170.2 = true then ((impl_ClassesOf.f 60).bind fun t182 => (if 0 ≤ t169 then (if t169 < (t182.length : Int) then (if bt174.2 = true then (if bt178.2 = true then (if (wrap64 ((wrap64 (bt170.1 * (rd t182 t169))) + bt178.1)) = (wrap64 (bt174.1 * 64)) then (if bt178.1 ≥ (rd t182 t169) then (some false) else (if bt170.1 < 1 then (some false) else (if bt174.1 < 8 then (if (wrap64 (8 * bt178.1)) > (wrap64 (bt174.1 * 64)) then (some false) else (some true)) else (some true)))) else (some false)) else (some false)) else (some false)) else (none)) else (none))) else (some true)) else (some false))) else (some false))) else (some false)))))))))
theorem inside : ∀ m : Fin 41, rest (m.val : Int) = some true := by decide +kernel
theorem rest_all (c : Int) : rest c = some true := by
  by_cases h : 0 ≤ c ∧ c < 41
  · obtain ⟨n, rfl⟩ : ∃ n : Nat, c = n := ⟨c.toNat, by omega⟩
    exact inside ⟨n, by omega⟩
  · unfold rest spec_SlotsIn.f impl_SlotsIn.f spec_PagesFor.f impl_PagesFor.f spec_TailOf.f impl_TailOf.f
    rw [spec_no c h, impl_no c h]
    rfl
theorem draw_some (l0 : List Int) : ∃ c, spec_DrawSlotsIn.f l0 = some c := by
  have hn : ∃ b, spec_l1Cur_next.f l0 0 0 = some b := by
    unfold spec_l1Cur_next.f
    by_cases h1 : (0 : Int) < (l0.length : Int)
    · rw [if_pos h1, if_pos (Int.le_refl 0)]
      split <;> exact ⟨_, rfl⟩
    · rw [if_neg h1]
      split <;> exact ⟨_, rfl⟩
  obtain ⟨b, hb⟩ := hn
  unfold spec_DrawSlotsIn.f spec_l1Cur_pick.f
  rw [if_neg (by decide), hb]
  simp only [Option.bind_some]
  rw [if_neg (by decide), if_neg (by decide)]
  exact ⟨_, rfl⟩
theorem FnSlots : laws_FnSlots.Pure := by
  intro l0 l1 _ _
  refine ⟨60, ?_⟩
  obtain ⟨c, hc⟩ := draw_some l0
  have hr := rest_all c
  unfold laws_FnSlots.f
  by_cases h : wrap64 ((l0.length : Int) + (l1.length : Int)) > 1048576
  · rw [if_pos h]
  · rw [if_neg h, hc]
    exact hr

end Go.Proofs.Ytjpdbgobabjpkaa.Pure
