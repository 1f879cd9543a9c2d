/- FreeIn of the program returns what the reference returns, for every list of runs, and leaves the list as it was. No condition. -/
import Derived.Test.YtjedkodimjijeaaQFnExactFreeInx5
namespace Go.Proofs.Ytjedkodimjijeaa.Pure
open Go.RowKit Go.Proofs.Ytjedkodimjijeaa.QFnExactFreeIn Go.Proofs.YtjedkodimjijeaaW.PrintWords Go.Proofs.YtjedkodimjijeaaW.PrintLast Go.Proofs.YtjedkodimjijeaaW.PrintMore

theorem w1 (i : Nat) (h : i < 9223372036854775000) : wrap64 ((i : Int) + 1) = ((i + 1 : Nat) : Int) := by unfold wrap64; omega
theorem sz_f_yes (l : List S36) (h : l.length ≤ 1048576) : laws_szRunS.f l 1048576 = some (1048576 - (l.length : Int)) := by
  unfold laws_szRunS.f
  have e : wrap64 (1048576 - (l.length : Int)) = 1048576 - (l.length : Int) := by unfold wrap64; omega
  rw [e, if_neg (by omega)]
theorem sz_f_no (l : List S36) (hm : l.length ≤ maxLen) (h : ¬ l.length ≤ 1048576) : laws_szRunS.f l 1048576 = some (-1) := by
  unfold laws_szRunS.f
  unfold maxLen at hm
  have e : wrap64 (1048576 - (l.length : Int)) = 1048576 - (l.length : Int) := by unfold wrap64; omega
  rw [e, if_pos (by omega)]
def conv (x : S36) : S39 := ⟨x.f0, x.f1⟩
theorem toRunS_l0 (l : List S36) (hl : l.length ≤ 1048576) : ∀ (d k i : Nat) (acc : List S39), acc.length = l.length → l.length = i + d → d < k → (∀ j, j < i → acc[j]? = (l.map conv)[j]?) → laws_toRunS.l0 k l acc (i : Int) = some (l.map conv) := by
  intro d
  induction d with
  | zero =>
    intro k i acc ha hi hk hj
    obtain ⟨k, rfl⟩ : ∃ m, k = m + 1 := ⟨k - 1, by omega⟩
    simp only [laws_toRunS.l0]
    rw [if_neg (by omega)]
    congr 1
    apply List.ext_getElem?
    intro j
    by_cases h : j < i
    · exact hj j h
    · rw [List.getElem?_eq_none (by omega), List.getElem?_eq_none (by rw [List.length_map]; omega)]
  | succ d ih =>
    intro k i acc ha hi hk hj
    obtain ⟨k, rfl⟩ : ∃ m, k = m + 1 := ⟨k - 1, by omega⟩
    simp only [laws_toRunS.l0, laws_toRun.f, Option.bind_some]
    rw [if_pos (by omega), if_pos (by omega), if_pos (by omega), w1 i (by omega), Int.toNat_natCast]
    apply ih k (i + 1) _ (by simp [ha]) (by omega) (by omega)
    intro j hjj
    rw [List.getElem?_set]
    by_cases e : i = j
    · subst e
      rw [if_pos rfl, if_pos (by omega)]
      unfold rd_T36
      rw [Int.toNat_natCast, List.getD_eq_getElem?_getD, List.getElem?_eq_getElem (by omega : i < l.length), List.getElem?_map, List.getElem?_eq_getElem (by omega : i < l.length)]
      rfl
    · rw [if_neg e]
      exact hj j (by omega)

theorem toRunS_f (l : List S36) (k : Nat) (hl : l.length ≤ 1048576) (hk : l.length < k) : laws_toRunS.f k l = some (l.map conv) := by
  unfold laws_toRunS.f
  rw [if_pos (by omega), if_pos (by omega), Int.toNat_natCast]
  exact toRunS_l0 l hl l.length k 0 _ (by simp) (by omega) hk (by intro j hj; omega)
theorem eqRunS_l0 (l : List S39) (hl : l.length ≤ 1099511627776) : ∀ (d k i : Nat), l.length = i + d → d < k → laws_eqRunS.l0 k l l (i : Int) = some true := by
  intro d
  induction d with
  | zero =>
    intro k i hi hk
    obtain ⟨k, rfl⟩ : ∃ m, k = m + 1 := ⟨k - 1, by omega⟩
    simp only [laws_eqRunS.l0]
    rw [if_neg (by omega)]
  | succ d ih =>
    intro k i hi hk
    obtain ⟨k, rfl⟩ : ∃ m, k = m + 1 := ⟨k - 1, by omega⟩
    simp only [laws_eqRunS.l0, laws_eqRun.f, if_true, Option.bind_some]
    rw [if_pos (by omega), if_pos (by omega), if_pos (by omega), w1 i (by omega)]
    exact ih k (i + 1) (by omega) (by omega)

theorem eqRunS_f (l : List S39) (k : Nat) (hl : l.length ≤ 1099511627776) (hk : l.length < k) : laws_eqRunS.f k l l = some true := by
  unfold laws_eqRunS.f
  rw [if_pos rfl]
  exact eqRunS_l0 l hl l.length k 0 (by omega) hk
theorem in_yes (a lo hi : Int) (h : lo ≤ a ∧ a ≤ hi) : spec_l1In.f a lo hi = some true := by
  unfold spec_l1In.f
  rw [if_pos h.1]
  simp only [Option.some.injEq, decide_eq_true_eq]
  exact h.2
theorem in_no (a lo hi : Int) (h : ¬ (lo ≤ a ∧ a ≤ hi)) : spec_l1In.f a lo hi = some false := by
  unfold spec_l1In.f
  by_cases h0 : a ≥ lo
  · rw [if_pos h0]
    simp only [Option.some.injEq, decide_eq_false_iff_not]
    omega
  · rw [if_neg h0]
theorem wi_yes (a lo hi : Int) (h : lo ≤ a ∧ a ≤ hi) : impl_within.f a lo hi = some true := by
  unfold impl_within.f
  rw [if_pos h.1]
  simp only [Option.some.injEq, decide_eq_true_eq]
  exact h.2
theorem wi_no (a lo hi : Int) (h : ¬ (lo ≤ a ∧ a ≤ hi)) : impl_within.f a lo hi = some false := by
  unfold impl_within.f
  by_cases h0 : a ≥ lo
  · rw [if_pos h0]
    simp only [Option.some.injEq, decide_eq_false_iff_not]
    omega
  · rw [if_neg h0]
theorem isRun_yes (a b : Int) (h : 0 ≤ a ∧ 1 ≤ b ∧ a + b ≤ 32) : impl_isRun.f a b = some true := by
  unfold impl_isRun.f
  have e : wrap64 (32 - b) = 32 - b := by unfold wrap64; omega
  rw [wi_yes b 1 32 (by omega), e]
  simp only [Option.bind_some, if_true]
  rw [wi_yes a 0 (32 - b) (by omega)]
  rfl
theorem isRun_no (a b : Int) (h : ¬ (0 ≤ a ∧ 1 ≤ b ∧ a + b ≤ 32)) : impl_isRun.f a b = some false := by
  unfold impl_isRun.f
  by_cases hb : 1 ≤ b ∧ b ≤ 32
  · have e : wrap64 (32 - b) = 32 - b := by unfold wrap64; omega
    rw [wi_yes b 1 32 hb, e]
    simp only [Option.bind_some, if_true]
    rw [wi_no a 0 (32 - b) (by omega)]
    rfl
  · rw [wi_no b 1 32 hb]
    rfl
theorem goodRuns_both (l : List S39) (hl : l.length ≤ 1099511627776) : ∀ (d k i : Nat), l.length = i + d → d < k → ∃ b, spec_GoodRuns.l0 k l l (l.length : Int) (i : Int) = some b ∧ impl_areRuns.l0 k l l (l.length : Int) (i : Int) = some b := by
  intro d
  induction d with
  | zero =>
    intro k i hi hk
    obtain ⟨k, rfl⟩ : ∃ m, k = m + 1 := ⟨k - 1, by omega⟩
    have hn : ¬ ((i : Int) < (l.length : Int)) := by omega
    simp only [spec_GoodRuns.l0, impl_areRuns.l0, if_neg hn]
    exact ⟨true, rfl, rfl⟩
  | succ d ih =>
    intro k i hi hk
    obtain ⟨k, rfl⟩ : ∃ m, k = m + 1 := ⟨k - 1, by omega⟩
    have hp : (i : Int) < (l.length : Int) := by omega
    have h0 : 0 ≤ (i : Int) := by omega
    obtain ⟨b, h1, h2⟩ := ih k (i + 1) (by omega) (by omega)
    simp only [spec_GoodRuns.l0, impl_areRuns.l0, if_pos hp, if_pos h0, w1 i (by omega), h1, h2]
    generalize (rd_T39 l (i : Int)).f0 = a
    generalize (rd_T39 l (i : Int)).f1 = c
    have tail : ∃ r, (if (i : Int) > 0 then (if 0 ≤ (wrap64 ((i : Int) - 1)) then (if (wrap64 ((i : Int) - 1)) < (l.length : Int) then (if (wrap64 (((rd_T39 l (wrap64 ((i : Int) - 1))).f0) + ((rd_T39 l (wrap64 ((i : Int) - 1))).f1))) ≥ a then (some false) else (some b)) else (none)) else (none)) else (some b)) = some r := by
      by_cases hz : (i : Int) > 0
      · have e : wrap64 ((i : Int) - 1) = (i : Int) - 1 := by unfold wrap64; omega
        rw [if_pos hz, e, if_pos (by omega), if_pos (by omega)]
        split <;> exact ⟨_, rfl⟩
      · rw [if_neg hz]
        exact ⟨_, rfl⟩
    by_cases hg : 0 ≤ a ∧ 1 ≤ c ∧ a + c ≤ 32
    · have e : wrap64 (32 - a) = 32 - a := by unfold wrap64; omega
      rw [isRun_yes a c hg, in_yes a 0 31 (by omega), e]
      simp only [Option.bind_some, if_true]
      rw [in_yes c 1 (32 - a) (by omega)]
      simp only [Option.bind_some, if_true]
      obtain ⟨r, hr⟩ := tail
      exact ⟨r, hr, hr⟩
    · rw [isRun_no a c hg]
      by_cases ha : 0 ≤ a ∧ a ≤ 31
      · have e : wrap64 (32 - a) = 32 - a := by unfold wrap64; omega
        rw [in_yes a 0 31 ha, e]
        simp only [Option.bind_some, if_true]
        rw [in_no c 1 (32 - a) (by omega)]
        exact ⟨false, rfl, rfl⟩
      · rw [in_no a 0 31 ha]
        exact ⟨false, rfl, rfl⟩

theorem goodRuns_f (l : List S39) (k : Nat) (hl : l.length ≤ 1099511627776) (hk : l.length < k) : ∃ b, spec_GoodRuns.f k l = some b ∧ impl_areRuns.f k l = some b :=
  goodRuns_both l hl l.length k 0 (by omega) hk

theorem walk_both (l : List S39) (hl : l.length ≤ 1099511627776) : ∀ (d k i : Nat) (a : Int), l.length = i + d → d < k → ∃ r, spec_FreeIn.l0 k a l (l.length : Int) (i : Int) = some r ∧ impl_FreeIn.l0 k a l (l.length : Int) (i : Int) = some r := by
  intro d
  induction d with
  | zero =>
    intro k i a hi hk
    obtain ⟨k, rfl⟩ : ∃ m, k = m + 1 := ⟨k - 1, by omega⟩
    have hn : ¬ ((i : Int) < (l.length : Int)) := by omega
    simp only [spec_FreeIn.l0, impl_FreeIn.l0, if_neg hn]
    exact ⟨_, rfl, rfl⟩
  | succ d ih =>
    intro k i a hi hk
    obtain ⟨k, rfl⟩ : ∃ m, k = m + 1 := ⟨k - 1, by omega⟩
    have hp : (i : Int) < (l.length : Int) := by omega
    have h0 : 0 ≤ (i : Int) := by omega
    simp only [spec_FreeIn.l0, impl_FreeIn.l0, if_pos hp, if_pos h0, w1 i (by omega)]
    obtain ⟨r, h1, h2⟩ := ih k (i + 1) (wrap64 (a + (rd_T39 l (i : Int)).f1)) (by omega) (by omega)
    refine ⟨r, ?_, h2⟩
    rw [← h1]

theorem FnExactFreeIn : laws_FnExactFreeIn.Pure := by
  intro l h
  refine ⟨l.length + 100, ?_⟩
  unfold laws_FnExactFreeIn.f
  by_cases hl : l.length ≤ 1048576
  · rw [sz_f_yes l hl]
    simp only [Option.bind_some]
    rw [if_neg (by omega), toRunS_f l _ hl (by omega)]
    simp only [Option.bind_some]
    obtain ⟨b, h1, h2⟩ := goodRuns_f (l.map conv) (l.length + 100) (by rw [List.length_map]; omega) (by rw [List.length_map]; omega)
    obtain ⟨r, g1, g2⟩ := walk_both (l.map conv) (by rw [List.length_map]; omega) (l.map conv).length (l.length + 100) 0 0 (by omega) (by rw [List.length_map]; omega)
    have e : ∃ r, spec_FreeIn.f (l.length + 100) (l.map conv) = some r ∧ impl_FreeIn.f (l.length + 100) (l.map conv) = some r := by
      unfold spec_FreeIn.f impl_FreeIn.f
      rw [h1, h2]
      simp only [Option.bind_some]
      cases b
      · exact ⟨_, rfl, rfl⟩
      · exact ⟨r, g1, g2⟩
    obtain ⟨r, e1, e2⟩ := e
    rw [e1]
    simp only [Option.bind_some]
    rw [e2]
    simp only [Option.bind_some, if_true, bne_self_eq_false]
    rw [show l.length + 100 = (l.length + 99) + 1 from rfl]
    simp only [laws_FnExactFreeIn.j0]
    rw [if_neg (by simp), toRunS_f l _ hl (by omega)]
    simp only [Option.bind_some]
    rw [eqRunS_f _ _ (by rw [List.length_map]; omega) (by rw [List.length_map]; omega)]
    rfl
  · rw [sz_f_no l h.1 hl]
    rfl

end Go.Proofs.Ytjedkodimjijeaa.Pure
