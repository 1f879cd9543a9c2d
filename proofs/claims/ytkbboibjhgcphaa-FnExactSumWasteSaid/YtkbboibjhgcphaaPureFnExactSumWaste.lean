/- SumWaste of the program returns what the reference returns, for every list of sizes, and leaves the list as it was. No condition. -/
import Derived.Test.YtkbboibjhgcphaaQFnExactSumWastex2
namespace Go.Proofs.Ytkbboibjhgcphaa.Pure
open Go.RowKit Go.Proofs.Ytkbboibjhgcphaa.QFnExactSumWaste Go.Proofs.YtkbboibjhgcphaaW.PrintWords Go.Proofs.YtkbboibjhgcphaaW.PrintLast

theorem w1 (i : Nat) (h : i < 9223372036854775000) : wrap64 ((i : Int) + 1) = ((i + 1 : Nat) : Int) := by unfold wrap64; omega

theorem toIntS_l0 (l : List Int) (hl : l.length ≤ 1099511627776) : ∀ (d k i : Nat) (acc : List Int), acc.length = l.length → l.length = i + d → d < k → (∀ j, j < i → acc[j]? = l[j]?) → laws_toIntS.l0 k l acc (i : Int) = some l := by
  intro d
  induction d with
  | zero =>
    intro k i acc ha hi hk hj
    obtain ⟨k, rfl⟩ : ∃ m, k = m + 1 := ⟨k - 1, by omega⟩
    simp only [laws_toIntS.l0]
    rw [if_neg (by omega)]
    congr 1
    apply List.ext_getElem?
    intro j
    by_cases h : j < i
    · exact hj j h
    · rw [List.getElem?_eq_none (by omega), List.getElem?_eq_none (by omega)]
  | succ d ih =>
    intro k i acc ha hi hk hj
    obtain ⟨k, rfl⟩ : ∃ m, k = m + 1 := ⟨k - 1, by omega⟩
    simp only [laws_toIntS.l0]
    rw [if_pos (by omega), if_pos (by omega), if_pos (by omega), w1 i (by omega), Int.toNat_natCast]
    apply ih k (i + 1) _ (by simp [ha]) (by omega) (by omega)
    intro j hjj
    rw [List.getElem?_set]
    by_cases e : i = j
    · subst e
      rw [if_pos rfl, if_pos (by omega)]
      unfold rd
      rw [Int.toNat_natCast, List.getD_eq_getElem?_getD, List.getElem?_eq_getElem (by omega : i < l.length)]
      rfl
    · rw [if_neg e]
      exact hj j (by omega)

theorem toIntS_f (l : List Int) (k : Nat) (hl : l.length ≤ 1099511627776) (hk : l.length < k) : laws_toIntS.f k l = some l := by
  unfold laws_toIntS.f
  rw [if_pos (by omega), if_pos (by omega), Int.toNat_natCast]
  exact toIntS_l0 l hl l.length k 0 _ (by simp) (by omega) hk (by intro j hj; omega)

theorem eqIntS_l0 (l : List Int) (hl : l.length ≤ 1099511627776) : ∀ (d k i : Nat), l.length = i + d → d < k → laws_eqIntS.l0 k l l (i : Int) = some true := by
  intro d
  induction d with
  | zero =>
    intro k i hi hk
    obtain ⟨k, rfl⟩ : ∃ m, k = m + 1 := ⟨k - 1, by omega⟩
    simp only [laws_eqIntS.l0]
    rw [if_neg (by omega)]
  | succ d ih =>
    intro k i hi hk
    obtain ⟨k, rfl⟩ : ∃ m, k = m + 1 := ⟨k - 1, by omega⟩
    simp only [laws_eqIntS.l0]
    rw [if_pos (by omega), if_pos (by omega), if_pos (by omega), if_pos trivial, w1 i (by omega)]
    exact ih k (i + 1) (by omega) (by omega)

theorem eqIntS_f (l : List Int) (k : Nat) (hl : l.length ≤ 1099511627776) (hk : l.length < k) : laws_eqIntS.f k l l = some true := by
  unfold laws_eqIntS.f
  rw [if_pos rfl]
  exact eqIntS_l0 l hl l.length k 0 (by omega) hk

theorem l1In_no (a : Int) (h : ¬ (1 ≤ a ∧ a ≤ 256)) : spec_l1In.f a 1 256 = some false := by
  unfold spec_l1In.f
  by_cases h0 : a ≥ 1
  · rw [if_pos h0]
    simp only [Option.some.injEq, decide_eq_false_iff_not]
    omega
  · rw [if_neg h0]

theorem within_no (a : Int) (h : ¬ (1 ≤ a ∧ a ≤ 256)) : impl_within.f a 1 256 = some false := by
  unfold impl_within.f
  by_cases h0 : a ≥ 1
  · rw [if_pos h0]
    simp only [Option.some.injEq, decide_eq_false_iff_not]
    omega
  · rw [if_neg h0]
theorem within_yes (a : Int) (h : 1 ≤ a ∧ a ≤ 256) : impl_within.f a 1 256 = some true := by
  unfold impl_within.f
  rw [if_pos h.1]
  simp only [Option.some.injEq, decide_eq_true_eq]
  exact h.2

def okSize (s : Nat) : Bool :=
  match spec_WasteOf.f 60 (s : Int), impl_classFor.f 60 (s : Int) with
  | some (v, true), some (_, n) => v == wrap64 (n - (s : Int))
  | _, _ => false

theorem sizes_ok : ∀ m : Fin 256, okSize (m.val + 1) = true := by decide +kernel

theorem at_size (x : Int) (h : 1 ≤ x ∧ x ≤ 256) (k : Nat) (hk : 60 ≤ k) : ∃ c n, spec_WasteOf.f k x = some (wrap64 (n - x), true) ∧ impl_classFor.f k x = some (c, n) := by
  obtain ⟨s, rfl⟩ : ∃ s : Nat, x = ((s + 1 : Nat) : Int) := ⟨x.toNat - 1, by omega⟩
  have hs := sizes_ok ⟨s, by omega⟩
  simp only [okSize] at hs
  split at hs
  · rename_i v c n h1 h2
    have e : v = wrap64 (n - ((s + 1 : Nat) : Int)) := by simpa using hs
    subst e
    exact ⟨c, n, at_rounds (g := fun k => spec_WasteOf.f k ((s + 1 : Nat) : Int)) (fun k => spec_WasteOf.mono _ k) hk h1, at_rounds (g := fun k => impl_classFor.f k ((s + 1 : Nat) : Int)) (fun k => impl_classFor.mono _ k) hk h2⟩
  · cases hs

theorem not_size (x : Int) (h : ¬ (1 ≤ x ∧ x ≤ 256)) (k : Nat) : spec_WasteOf.f k x = some (0, false) := by
  unfold spec_WasteOf.f spec_ClassFor.f
  rw [l1In_no x h]
  rfl

theorem isSize_no (x : Int) (h : ¬ (1 ≤ x ∧ x ≤ 256)) : impl_isSize.f x = some false := by
  unfold impl_isSize.f
  rw [within_no x h]
  rfl

theorem isSize_yes (x : Int) (h : 1 ≤ x ∧ x ≤ 256) : impl_isSize.f x = some true := by
  unfold impl_isSize.f
  rw [within_yes x h]
  rfl

theorem lockstep (l : List Int) (hl : l.length ≤ 1099511627776) : ∀ (d k i : Nat) (a b : Int), l.length = i + d → d + 60 < k →
    ∃ r, spec_SumWaste.l0 k l a b l (l.length : Int) (i : Int) = some r ∧ (l.length ≤ 40 → impl_SumWaste.l0 k a b l (l.length : Int) (i : Int) = some r) ∧ (40 < l.length → r = (0, 0, false)) := by
  intro d
  induction d with
  | zero =>
    intro k i a b hi hk
    obtain ⟨k, rfl⟩ : ∃ m, k = m + 1 := ⟨k - 1, by omega⟩
    have hn : ¬ ((i : Int) < (l.length : Int)) := by omega
    simp only [spec_SumWaste.l0, impl_SumWaste.l0, if_neg hn]
    by_cases h : (l.length : Int) > 40
    · rw [if_pos h]
      exact ⟨_, rfl, fun h' => by omega, fun _ => rfl⟩
    · rw [if_neg h]
      exact ⟨_, rfl, fun h' => rfl, fun _ => by omega⟩
  | succ d ih =>
    intro k i a b hi hk
    obtain ⟨k, rfl⟩ : ∃ m, k = m + 1 := ⟨k - 1, by omega⟩
    have hp : (i : Int) < (l.length : Int) := by omega
    have h0 : 0 ≤ (i : Int) := by omega
    simp only [spec_SumWaste.l0, impl_SumWaste.l0, if_pos hp, if_pos h0, w1 i (by omega)]
    by_cases h : 1 ≤ rd l (i : Int) ∧ rd l (i : Int) ≤ 256
    · obtain ⟨c, n, h1, h2⟩ := at_size _ h k (by omega)
      rw [h1, isSize_yes _ h]
      simp only [Option.bind_some, if_true]
      rw [h2]
      simp only [Option.bind_some]
      exact ih k (i + 1) _ _ (by omega) (by omega)
    · rw [not_size _ h, isSize_no _ h]
      exact ⟨_, rfl, fun _ => rfl, fun _ => rfl⟩

theorem sums (l : List Int) (hl : l.length ≤ 1099511627776) (k : Nat) (hk : l.length + 60 < k) : ∃ r, spec_SumWaste.f k l = some r ∧ impl_SumWaste.f k l = some r := by
  obtain ⟨r, h1, h2, h3⟩ := lockstep l hl l.length k 0 0 0 (by omega) (by omega)
  refine ⟨r, h1, ?_⟩
  unfold impl_SumWaste.f
  by_cases h : (l.length : Int) > 40
  · rw [if_pos h, h3 (by omega)]
  · rw [if_neg h]
    exact h2 (by omega)

theorem FnExactSumWaste : laws_FnExactSumWaste.Pure := by
  intro l _
  refine ⟨l.length + 100, ?_⟩
  unfold laws_FnExactSumWaste.f
  by_cases h : (l.length : Int) > 1048576
  · rw [if_pos h]
  · rw [if_neg h, toIntS_f l _ (by omega) (by omega)]
    simp only [Option.bind_some]
    obtain ⟨r, h1, h2⟩ := sums l (by omega) (l.length + 100) (by omega)
    rw [h1]
    simp only [Option.bind_some]
    rw [h2]
    simp only [Option.bind_some, if_true, bne_self_eq_false]
    rw [show l.length + 100 = (l.length + 99) + 1 from rfl]
    simp only [laws_FnExactSumWaste.j0]
    rw [if_neg (by simp), toIntS_f l _ (by omega) (by omega)]
    simp only [Option.bind_some]
    rw [eqIntS_f l _ (by omega) (by omega)]
    rfl

end Go.Proofs.Ytkbboibjhgcphaa.Pure
