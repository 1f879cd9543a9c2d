/- SameReached of the program returns what the reference returns, for every pair of heaps, and leaves them as they were. No condition. -/
import Derived.Test.YtmchgcilpgbalaaQFnExactSameReachedx11
namespace Go.Proofs.Ytmchgcilpgbalaa.Pure
set_option linter.unusedVariables false
set_option linter.unusedSimpArgs false
open Go.RowKit Go.Proofs.Ytmchgcilpgbalaa.QFnExactSameReached Go.Proofs.YtmchgcilpgbalaaW.PrintWords Go.Proofs.YtmchgcilpgbalaaW.PrintLast Go.Proofs.YtmchgcilpgbalaaW.PrintMore

theorem w1 (i : Nat) (h : i < 9223372036854775000) : wrap64 ((i : Int) + 1) = ((i + 1 : Nat) : Int) := by unfold wrap64; omega
theorem toIntS_l0 (l : List Int) (hl : l.length ≤ 1099511627776) : ∀ (d k i : Nat) (acc : List Int), acc.length = l.length → l.length = i + d → d < k → (∀ j, j < i → acc[j]? = l[j]?) → laws_toIntS.l0 k l acc (i : Int) = some l := by
  intro d
  induction d with
  | zero =>
    intro k i acc ha hi hk hj
    obtain ⟨k, rfl⟩ : ∃ m, k = m + 1 := ⟨k - 1, by omega⟩
    simp only [laws_toIntS.l0]
    rw [if_neg (by omega)]
    congr 1
    apply List.ext_getElem?
    intro j
    by_cases h : j < i
    · exact hj j h
    · rw [List.getElem?_eq_none (by omega), List.getElem?_eq_none (by omega)]
  | succ d ih =>
    intro k i acc ha hi hk hj
    obtain ⟨k, rfl⟩ : ∃ m, k = m + 1 := ⟨k - 1, by omega⟩
    simp only [laws_toIntS.l0]
    rw [if_pos (by omega), if_pos (by omega), if_pos (by omega), w1 i (by omega), Int.toNat_natCast]
    apply ih k (i + 1) _ (by simp [ha]) (by omega) (by omega)
    intro j hjj
    rw [List.getElem?_set]
    by_cases e : i = j
    · subst e
      rw [if_pos rfl, if_pos (by omega)]
      unfold rd
      rw [Int.toNat_natCast, List.getD_eq_getElem?_getD, List.getElem?_eq_getElem (by omega : i < l.length)]
      rfl
    · rw [if_neg e]
      exact hj j (by omega)

theorem toIntS_f (l : List Int) (k : Nat) (hl : l.length ≤ 1099511627776) (hk : l.length < k) : laws_toIntS.f k l = some l := by
  unfold laws_toIntS.f
  rw [if_pos (by omega), if_pos (by omega), Int.toNat_natCast]
  exact toIntS_l0 l hl l.length k 0 _ (by simp) (by omega) hk (by intro j hj; omega)
theorem eqIntS_l0 (l : List Int) (hl : l.length ≤ 1099511627776) : ∀ (d k i : Nat), l.length = i + d → d < k → laws_eqIntS.l0 k l l (i : Int) = some true := by
  intro d
  induction d with
  | zero =>
    intro k i hi hk
    obtain ⟨k, rfl⟩ : ∃ m, k = m + 1 := ⟨k - 1, by omega⟩
    simp only [laws_eqIntS.l0]
    rw [if_neg (by omega)]
  | succ d ih =>
    intro k i hi hk
    obtain ⟨k, rfl⟩ : ∃ m, k = m + 1 := ⟨k - 1, by omega⟩
    simp only [laws_eqIntS.l0]
    rw [if_pos (by omega), if_pos (by omega), if_pos (by omega), if_pos trivial, w1 i (by omega)]
    exact ih k (i + 1) (by omega) (by omega)

theorem eqIntS_f (l : List Int) (k : Nat) (hl : l.length ≤ 1099511627776) (hk : l.length < k) : laws_eqIntS.f k l l = some true := by
  unfold laws_eqIntS.f
  rw [if_pos rfl]
  exact eqIntS_l0 l hl l.length k 0 (by omega) hk
theorem toBoolS_l0 (l : List Bool) (hl : l.length ≤ 1048576) : ∀ (d k i : Nat) (acc : List Bool), acc.length = l.length → l.length = i + d → d < k → (∀ j, j < i → acc[j]? = l[j]?) → laws_toBoolS.l0 k l acc (i : Int) = some l := by
  intro d
  induction d with
  | zero =>
    intro k i acc ha hi hk hj
    obtain ⟨k, rfl⟩ : ∃ m, k = m + 1 := ⟨k - 1, by omega⟩
    simp only [laws_toBoolS.l0]
    rw [if_neg (by omega)]
    congr 1
    apply List.ext_getElem?
    intro j
    by_cases h : j < i
    · exact hj j h
    · rw [List.getElem?_eq_none (by omega), List.getElem?_eq_none (by omega)]
  | succ d ih =>
    intro k i acc ha hi hk hj
    obtain ⟨k, rfl⟩ : ∃ m, k = m + 1 := ⟨k - 1, by omega⟩
    simp only [laws_toBoolS.l0]
    rw [if_pos (by omega), if_pos (by omega), if_pos (by omega), w1 i (by omega), Int.toNat_natCast]
    apply ih k (i + 1) _ (by simp [ha]) (by omega) (by omega)
    intro j hjj
    rw [List.getElem?_set]
    by_cases e : i = j
    · subst e
      rw [if_pos rfl, if_pos (by omega)]
      unfold rdOf
      rw [Int.toNat_natCast, List.getD_eq_getElem?_getD, List.getElem?_eq_getElem (by omega : i < l.length)]
      rfl
    · rw [if_neg e]
      exact hj j (by omega)

theorem toBoolS_f (l : List Bool) (k : Nat) (hl : l.length ≤ 1048576)(hk : l.length < k) : laws_toBoolS.f k l = some l := by
  unfold laws_toBoolS.f
  rw [if_pos (by omega), if_pos (by omega), Int.toNat_natCast]
  exact toBoolS_l0 l hl l.length k 0 _ (by simp) (by omega) hk (by intro j hj; omega)
theorem toIntSS_l0 (l : List (List Int)) (hl : l.length ≤ 1048576) (hin : ∀ x ∈ l, x.length ≤ 1048576)  : ∀ (d k i : Nat) (acc : List (List Int)), acc.length = l.length → l.length = i + d → d + 1048580 < k → (∀ j, j < i → acc[j]? = l[j]?) → laws_toIntSS.l0 k l acc (i : Int) = some l := by
  intro d
  induction d with
  | zero =>
    intro k i acc ha hi hk hj
    obtain ⟨k, rfl⟩ : ∃ m, k = m + 1 := ⟨k - 1, by omega⟩
    simp only [laws_toIntSS.l0]
    rw [if_neg (by omega)]
    congr 1
    apply List.ext_getElem?
    intro j
    by_cases h : j < i
    · exact hj j h
    · rw [List.getElem?_eq_none (by omega), List.getElem?_eq_none (by omega)]
  | succ d ih =>
    intro k i acc ha hi hk hj
    obtain ⟨k, rfl⟩ : ∃ m, k = m + 1 := ⟨k - 1, by omega⟩
    have hx : (rd_L1 l (i : Int)) = l[i] := by
      unfold rd_L1
      rw [Int.toNat_natCast, List.getD_eq_getElem?_getD, List.getElem?_eq_getElem (by omega : i < l.length)]
      rfl
    have hc := toIntS_f (rd_L1 l (i : Int)) k (by rw [hx]; have := hin l[i] (List.getElem_mem _); omega) (by rw [hx]; have := hin l[i] (List.getElem_mem _); omega)
    simp only [laws_toIntSS.l0, hc, Option.bind_some]
    rw [if_pos (by omega), if_pos (by omega), if_pos (by omega), w1 i (by omega), Int.toNat_natCast]
    apply ih k (i + 1) _ (by simp [ha]) (by omega) (by omega)
    intro j hjj
    rw [List.getElem?_set]
    by_cases e : i = j
    · subst e
      rw [if_pos rfl, if_pos (by omega)]
      unfold rd_L1
      rw [Int.toNat_natCast, List.getD_eq_getElem?_getD, List.getElem?_eq_getElem (by omega : i < l.length)]
      rfl
    · rw [if_neg e]
      exact hj j (by omega)

theorem toIntSS_f (l : List (List Int)) (k : Nat) (hl : l.length ≤ 1048576) (hin : ∀ x ∈ l, x.length ≤ 1048576) (hk : l.length + 1048580 < k) : laws_toIntSS.f k l = some l := by
  unfold laws_toIntSS.f
  rw [if_pos (by omega), if_pos (by omega), Int.toNat_natCast]
  exact toIntSS_l0 l hl hin l.length k 0 _ (by simp) (by omega) hk (by intro j hj; omega)
theorem eqBoolS_l0 (l : List Bool) (hl : l.length ≤ 1099511627776) : ∀ (d k i : Nat), l.length = i + d → d < k → laws_eqBoolS.l0 k l l (i : Int) = some true := by
  intro d
  induction d with
  | zero =>
    intro k i hi hk
    obtain ⟨k, rfl⟩ : ∃ m, k = m + 1 := ⟨k - 1, by omega⟩
    simp only [laws_eqBoolS.l0]
    rw [if_neg (by omega)]
  | succ d ih =>
    intro k i hi hk
    obtain ⟨k, rfl⟩ : ∃ m, k = m + 1 := ⟨k - 1, by omega⟩
    simp only [laws_eqBoolS.l0]
    rw [if_pos (by omega), if_pos (by omega), if_pos (by omega), if_neg (by simp), w1 i (by omega)]
    exact ih k (i + 1) (by omega) (by omega)

theorem eqBoolS_f (l : List Bool) (k : Nat) (hl : l.length ≤ 1099511627776)(hk : l.length < k) : laws_eqBoolS.f k l l = some true := by
  unfold laws_eqBoolS.f
  rw [if_pos rfl]
  exact eqBoolS_l0 l hl l.length k 0 (by omega) hk
theorem eqIntSS_l0 (l : List (List Int)) (hl : l.length ≤ 1099511627776) (hin : ∀ x ∈ l, x.length ≤ 1048576)  : ∀ (d k i : Nat), l.length = i + d → d + 1048580 < k → laws_eqIntSS.l0 k l l (i : Int) = some true := by
  intro d
  induction d with
  | zero =>
    intro k i hi hk
    obtain ⟨k, rfl⟩ : ∃ m, k = m + 1 := ⟨k - 1, by omega⟩
    simp only [laws_eqIntSS.l0]
    rw [if_neg (by omega)]
  | succ d ih =>
    intro k i hi hk
    obtain ⟨k, rfl⟩ : ∃ m, k = m + 1 := ⟨k - 1, by omega⟩
    have hx : (rd_L1 l (i : Int)) = l[i] := by
      unfold rd_L1
      rw [Int.toNat_natCast, List.getD_eq_getElem?_getD, List.getElem?_eq_getElem (by omega : i < l.length)]
      rfl
    have hc := eqIntS_f (rd_L1 l (i : Int)) k (by rw [hx]; have := hin l[i] (List.getElem_mem _); omega) (by rw [hx]; have := hin l[i] (List.getElem_mem _); omega)
    simp only [laws_eqIntSS.l0, hc, Option.bind_some, if_true]
    rw [if_pos (by omega), if_pos (by omega), if_pos (by omega), w1 i (by omega)]
    exact ih k (i + 1) (by omega) (by omega)

theorem eqIntSS_f (l : List (List Int)) (k : Nat) (hl : l.length ≤ 1099511627776) (hin : ∀ x ∈ l, x.length ≤ 1048576) (hk : l.length + 1048580 < k) : laws_eqIntSS.f k l l = some true := by
  unfold laws_eqIntSS.f
  rw [if_pos rfl]
  exact eqIntSS_l0 l hl hin l.length k 0 (by omega) hk
structure HSize (F : List (List Int)) (L : List Bool) (R : List Int) : Prop where
  f : F.length ≤ 1048576
  r : ∀ x ∈ F, x.length ≤ 1048576
  l : L.length ≤ 1048576
  s : R.length ≤ 1048576
theorem szIntS_f (l : List Int) (a : Int) (hm : l.length ≤ maxLen) (ha : 0 ≤ a ∧ a ≤ 1048576) : (laws_szIntS.f l a = some (-1) ∧ a < l.length) ∨ (laws_szIntS.f l a = some (a - l.length) ∧ (l.length : Int) ≤ a) := by
  unfold laws_szIntS.f
  unfold maxLen at hm
  have e : wrap64 (a - (l.length : Int)) = a - (l.length : Int) := by unfold wrap64; omega
  rw [e]
  by_cases h : a - (l.length : Int) < 0
  · exact .inl ⟨by rw [if_pos h], by omega⟩
  · exact .inr ⟨by rw [if_neg h], by omega⟩
theorem szBoolS_f (l : List Bool) (a : Int) (hm : l.length ≤ maxLen) (ha : 0 ≤ a ∧ a ≤ 1048576) : (laws_szBoolS.f l a = some (-1) ∧ a < l.length) ∨ (laws_szBoolS.f l a = some (a - l.length) ∧ (l.length : Int) ≤ a) := by
  unfold laws_szBoolS.f
  unfold maxLen at hm
  have e : wrap64 (a - (l.length : Int)) = a - (l.length : Int) := by unfold wrap64; omega
  rw [e]
  by_cases h : a - (l.length : Int) < 0
  · exact .inl ⟨by rw [if_pos h], by omega⟩
  · exact .inr ⟨by rw [if_neg h], by omega⟩
theorem szIntSS_l0 (l : List (List Int)) (hm : ∀ x ∈ l, x.length ≤ maxLen) (hl : l.length ≤ 1048576) : ∀ (d k i : Nat) (a : Int), l.length = i + d → d < k → 0 ≤ a ∧ a ≤ 1048576 →
    laws_szIntSS.l0 k l a (i : Int) = some (-1) ∨ ∃ b, laws_szIntSS.l0 k l a (i : Int) = some b ∧ 0 ≤ b ∧ b ≤ a ∧ ∀ x ∈ l.drop i, (x.length : Int) ≤ a := by
  intro d
  induction d with
  | zero =>
    intro k i a hi hk ha
    obtain ⟨k, rfl⟩ : ∃ m, k = m + 1 := ⟨k - 1, by omega⟩
    have hn : ¬ ((i : Int) < (l.length : Int)) := by omega
    simp only [laws_szIntSS.l0, if_neg hn]
    refine .inr ⟨a, rfl, ha.1, by omega, ?_⟩
    rw [List.drop_of_length_le (by omega)]
    simp
  | succ d ih =>
    intro k i a hi hk ha
    obtain ⟨k, rfl⟩ : ∃ m, k = m + 1 := ⟨k - 1, by omega⟩
    have hp : (i : Int) < (l.length : Int) := by omega
    have h0 : 0 ≤ (i : Int) := by omega
    have hx : (rd_L1 l (i : Int)) = l[i] := by
      unfold rd_L1
      rw [Int.toNat_natCast, List.getD_eq_getElem?_getD, List.getElem?_eq_getElem (by omega : i < l.length)]
      rfl
    simp only [laws_szIntSS.l0, if_pos hp, if_pos h0, w1 i (by omega)]
    rw [hx]
    rcases szIntS_f l[i] a (hm _ (List.getElem_mem _)) ha with ⟨e, _⟩ | ⟨e, hb⟩
    · rw [e]
      exact .inl rfl
    · rw [e]
      simp only [Option.bind_some]
      rw [if_neg (by omega)]
      rcases ih k (i + 1) (a - l[i].length) (by omega) (by omega) (by omega) with h | ⟨b, h, hb0, hba, hall⟩
      · exact .inl h
      · refine .inr ⟨b, h, hb0, by omega, ?_⟩
        rw [List.drop_eq_getElem_cons (by omega : i < l.length)]
        intro x hxm
        rcases List.mem_cons.1 hxm with rfl | hxm
        · exact hb
        · have := hall x hxm
          omega
theorem szHeap_f (F : List (List Int)) (L : List Bool) (R : List Int) (a : Int) (k : Nat) (hk : 1048600 ≤ k) (hF : F.length ≤ maxLen) (hr : ∀ x ∈ F, x.length ≤ maxLen) (hL : L.length ≤ maxLen) (hR : R.length ≤ maxLen) (ha : 0 ≤ a ∧ a ≤ 1048576) :
    laws_szHeap.f k F L R a = some (-1) ∨ ∃ b, laws_szHeap.f k F L R a = some b ∧ 0 ≤ b ∧ b ≤ a ∧ HSize F L R := by
  unfold laws_szHeap.f laws_szIntSS.f
  have e : wrap64 (a - (F.length : Int)) = a - (F.length : Int) := by unfold wrap64; unfold maxLen at hF; omega
  rw [e]
  by_cases h : a - (F.length : Int) < 0
  · rw [if_pos h]
    exact .inl rfl
  · rw [if_neg h]
    rcases szIntSS_l0 F hr (by omega) F.length k 0 (a - F.length) (by omega) (by omega) (by omega) with e1 | ⟨b, e1, hb0, hba, hall⟩
    · have e1' : laws_szIntSS.l0 k F (a - ↑F.length) 0 = some (-1) := e1
      rw [e1']
      exact .inl rfl
    · have e1' : laws_szIntSS.l0 k F (a - ↑F.length) 0 = some b := e1
      rw [e1']
      simp only [Option.bind_some]
      rw [if_neg (by omega)]
      rcases szBoolS_f L b hL (by omega) with ⟨e2, _⟩ | ⟨e2, hb2⟩
      · rw [e2]
        exact .inl rfl
      · rw [e2]
        simp only [Option.bind_some]
        rw [if_neg (by omega)]
        rcases szIntS_f R (b - L.length) hR (by omega) with ⟨e3, _⟩ | ⟨e3, hb3⟩
        · rw [e3]
          exact .inl rfl
        · rw [e3]
          simp only [Option.bind_some]
          rw [if_neg (by omega)]
          exact .inr ⟨_, rfl, by omega, by omega, ⟨by omega, fun x hx => by have := hall x (by simpa using hx); omega, by omega, by omega⟩⟩
theorem toHeap_f (F : List (List Int)) (L : List Bool) (R : List Int) (k : Nat) (hk : 2097200 ≤ k) (h : HSize F L R) : laws_toHeap.f k F L R = some (F, L, R) := by
  have := h.f
  have := h.l
  have := h.s
  unfold laws_toHeap.f
  rw [toIntSS_f F k h.f h.r (by omega)]
  simp only [Option.bind_some]
  rw [toBoolS_f L k h.l (by omega)]
  simp only [Option.bind_some]
  rw [toIntS_f R k (by omega) (by omega)]
  rfl
theorem eqHeap_f (F : List (List Int)) (L : List Bool) (R : List Int) (k : Nat) (hk : 2097200 ≤ k) (h : HSize F L R) : laws_eqHeap.f k F L R F L R = some true := by
  have := h.f
  have := h.l
  have := h.s
  unfold laws_eqHeap.f
  rw [eqIntSS_f F k (by omega) h.r (by omega)]
  simp only [Option.bind_some, if_true]
  rw [eqBoolS_f L k (by omega) (by omega)]
  simp only [Option.bind_some, if_true]
  rw [eqIntS_f R k (by omega) (by omega)]
  rfl
theorem in_yes (a lo hi : Int) (h : lo ≤ a ∧ a ≤ hi) : spec_l1In.f a lo hi = some true := by
  unfold spec_l1In.f
  rw [if_pos h.1]
  simp only [Option.some.injEq, decide_eq_true_eq]
  exact h.2
theorem in_no (a lo hi : Int) (h : ¬ (lo ≤ a ∧ a ≤ hi)) : spec_l1In.f a lo hi = some false := by
  unfold spec_l1In.f
  by_cases h0 : a ≥ lo
  · rw [if_pos h0]
    simp only [Option.some.injEq, decide_eq_false_iff_not]
    omega
  · rw [if_neg h0]
theorem wi_yes (a lo hi : Int) (h : lo ≤ a ∧ a ≤ hi) : impl_within.f a lo hi = some true := by
  unfold impl_within.f
  rw [if_pos h.1]
  simp only [Option.some.injEq, decide_eq_true_eq]
  exact h.2
theorem wi_no (a lo hi : Int) (h : ¬ (lo ≤ a ∧ a ≤ hi)) : impl_within.f a lo hi = some false := by
  unfold impl_within.f
  by_cases h0 : a ≥ lo
  · rw [if_pos h0]
    simp only [Option.some.injEq, decide_eq_false_iff_not]
    omega
  · rw [if_neg h0]
/-- A reference: none, or an object that is live. -/
def okRef (L : List Bool) (x : Int) : Bool := decide (x = -1) || (decide (0 ≤ x) && decide (x < L.length) && L.getD x.toNat false)
def okObj (L : List Bool) (k : Nat) (row : List Int) : Bool := decide (row.length ≤ 3) && (L.getD k false || decide (row.length = 0)) && row.all (okRef L)
def okObjs (F : List (List Int)) (L : List Bool) (k : Nat) : List (List Int) → Bool
  | [] => true
  | row :: rest => okObj L k row && okObjs F L (k + 1) rest
/-- A valid heap. -/
def goodHeap (F : List (List Int)) (L : List Bool) (R : List Int) : Bool := decide (F.length ≤ 12) && decide (L.length = F.length) && decide (R.length ≤ 4) && R.all (okRef L) && okObjs F L 0 F
theorem names_l0 (L : List Bool) (hL : L.length ≤ 1048576) (l : List Int) (hl : l.length ≤ 1048576) : ∀ (d k i : Nat), l.length = i + d → d < k → spec_l5Names.l0 k L l (l.length : Int) (i : Int) = some ((l.drop i).all (okRef L)) := by
  intro d
  induction d with
  | zero =>
    intro k i hi hk
    obtain ⟨k, rfl⟩ : ∃ m, k = m + 1 := ⟨k - 1, by omega⟩
    have hn : ¬ ((i : Int) < (l.length : Int)) := by omega
    simp only [spec_l5Names.l0, if_neg hn]
    rw [List.drop_of_length_le (by omega)]
    rfl
  | succ d ih =>
    intro k i hi hk
    obtain ⟨k, rfl⟩ : ∃ m, k = m + 1 := ⟨k - 1, by omega⟩
    have hp : (i : Int) < (l.length : Int) := by omega
    have h0 : 0 ≤ (i : Int) := by omega
    have hx : rd l (i : Int) = l[i] := by
      unfold rd
      rw [Int.toNat_natCast, List.getD_eq_getElem?_getD, List.getElem?_eq_getElem (by omega : i < l.length)]
      rfl
    have e : wrap64 ((L.length : Int) - 1) = (L.length : Int) - 1 := by unfold wrap64; omega
    simp only [spec_l5Names.l0, if_pos hp, if_pos h0, w1 i (by omega), hx, e]
    rw [List.drop_eq_getElem_cons (by omega : i < l.length), List.all_cons, ih k (i + 1) (by omega) (by omega)]
    generalize l[i] = x
    by_cases h1 : x = -1
    · subst h1
      rw [in_yes (-1) (-1) _ (by omega)]
      simp [okRef]
    · by_cases h2 : 0 ≤ x ∧ x < L.length
      · rw [in_yes x (-1) _ (by omega)]
        simp only [Option.bind_some, if_true]
        rw [if_pos (by omega), if_pos h2.1, if_pos h2.2]
        have er : rdOf false L x = L.getD x.toNat false := rfl
        rw [er]
        cases hg : L.getD x.toNat false with
        | true =>
          have hok : okRef L x = true := by
            unfold okRef
            rw [hg, decide_eq_true h2.1, decide_eq_true h2.2]
            simp
          rw [hok]
          simp only [if_true, Bool.true_and]
        | false =>
          have hok : okRef L x = false := by
            unfold okRef
            rw [hg]
            simp [h1]
          rw [hok]
          simp only [Bool.false_eq_true, if_false, Bool.false_and]
      · rw [in_no x (-1) _ (by omega)]
        have : okRef L x = false := by
          unfold okRef
          simp only [h1, decide_false, Bool.false_or, Bool.and_eq_false_iff, decide_eq_false_iff_not]
          omega
        simp [this]
theorem names_f (L : List Bool) (hL : L.length ≤ 1048576) (l : List Int) (hl : l.length ≤ 1048576) (k : Nat) (hk : l.length < k) : spec_l5Names.f k L l = some (l.all (okRef L)) := by
  have e := names_l0 L hL l hl l.length k 0 (by omega) hk
  exact e
theorem sGood_l0 (F : List (List Int)) (L : List Bool) (R : List Int) (hF : F.length ≤ 12) (hL : L.length = F.length) : ∀ (d k i : Nat), F.length = i + d → d + 20 < k → spec_GoodHeap.l0 k F (F.length : Int) (i : Int) F L R = some (okObjs F L i (F.drop i)) := by
  intro d
  induction d with
  | zero =>
    intro k i hi hk
    obtain ⟨k, rfl⟩ : ∃ m, k = m + 1 := ⟨k - 1, by omega⟩
    have hn : ¬ ((i : Int) < (F.length : Int)) := by omega
    simp only [spec_GoodHeap.l0, if_neg hn]
    rw [List.drop_of_length_le (by omega)]
    rfl
  | succ d ih =>
    intro k i hi hk
    obtain ⟨k, rfl⟩ : ∃ m, k = m + 1 := ⟨k - 1, by omega⟩
    have hp : (i : Int) < (F.length : Int) := by omega
    have hp2 : (i : Int) < (L.length : Int) := by omega
    have h0 : 0 ≤ (i : Int) := by omega
    have hx : rd_L1 F (i : Int) = F[i] := by
      unfold rd_L1
      rw [Int.toNat_natCast, List.getD_eq_getElem?_getD, List.getElem?_eq_getElem (by omega : i < F.length)]
      rfl
    have er : rdOf false L (i : Int) = L.getD i false := by unfold rdOf; rw [Int.toNat_natCast]
    simp only [spec_GoodHeap.l0, if_pos hp, if_pos hp2, if_pos h0, w1 i (by omega), hx, er]
    rw [List.drop_eq_getElem_cons (by omega : i < F.length)]
    simp only [okObjs]
    rw [ih k (i + 1) (by omega) (by omega)]
    generalize F[i] = row
    by_cases h3 : (row.length : Int) > 3
    · rw [if_pos h3]
      have : okObj L i row = false := by simp [okObj]; omega
      rw [this]
      rfl
    · rw [if_neg h3, names_f L (by omega) row (by omega) k (by omega)]
      have h3' : row.length ≤ 3 := by omega
      have hok : okObj L i row = ((L.getD i false || decide (row.length = 0)) && row.all (okRef L)) := by
        unfold okObj
        rw [decide_eq_true h3', Bool.true_and]
      rw [hok]
      cases L.getD i false with
      | true =>
        cases row.all (okRef L) with
        | true => simp only [if_true, Option.bind_some, Bool.true_or, Bool.true_and]
        | false => simp only [if_true, Option.bind_some, Bool.and_false, Bool.false_and, Bool.false_eq_true, if_false]
      | false =>
        by_cases hz : (row.length : Int) > 0
        · rw [if_neg (by simp), if_pos hz]
          have hz' : ¬ row.length = 0 := by omega
          rw [decide_eq_false hz']
          rfl
        · rw [if_neg (by simp), if_neg hz]
          have hz' : row.length = 0 := by omega
          rw [decide_eq_true hz']
          cases row.all (okRef L) with
          | true => simp only [if_true, Option.bind_some, Bool.or_true, Bool.true_and]
          | false => simp only [Option.bind_some, Bool.and_false, Bool.false_and, Bool.false_eq_true, if_false]
theorem sGood_f (F : List (List Int)) (L : List Bool) (R : List Int) (k : Nat) (hk : 100 ≤ k) (hm : HSize F L R) : spec_GoodHeap.f k F L R = some (goodHeap F L R) := by
  obtain ⟨k, rfl⟩ : ∃ m, k = m + 1 := ⟨k - 1, by omega⟩
  unfold spec_GoodHeap.f
  by_cases h1 : (F.length : Int) > 12
  · rw [if_pos h1]
    have : goodHeap F L R = false := by
      have h1' : ¬ F.length ≤ 12 := by omega
      simp [goodHeap, h1']
    rw [this]
    simp [spec_GoodHeap.j0]
  · have h1' : F.length ≤ 12 := by omega
    rw [if_neg h1]
    by_cases h2 : (L.length : Int) = (F.length : Int)
    · have h2' : L.length = F.length := by omega
      rw [if_pos h2]
      by_cases h3 : (R.length : Int) > 4
      · rw [if_pos h3]
        have : goodHeap F L R = false := by
          have h3' : ¬ R.length ≤ 4 := by omega
          simp [goodHeap, h3']
        rw [this]
        simp [spec_GoodHeap.j0]
      · have h3' : R.length ≤ 4 := by omega
        rw [if_neg h3, names_f L (by omega) R (by omega) (k + 1) (by omega)]
        simp only [Option.bind_some, spec_GoodHeap.j0]
        have e0 := sGood_l0 F L R h1' h2' F.length k 0 (by omega) (by omega)
        have e0' : spec_GoodHeap.l0 k F (F.length : Int) 0 F L R = some (okObjs F L 0 F) := e0
        rw [e0']
        cases ha : R.all (okRef L) with
        | true => simp [goodHeap, h1', h2', h3', ha]
        | false => simp [goodHeap, ha]
    · have h2' : ¬ L.length = F.length := by omega
      rw [if_neg h2]
      have : goodHeap F L R = false := by simp [goodHeap, h2']
      rw [this]
      simp [spec_GoodHeap.j0]
theorem isRef_f (F : List (List Int)) (L : List Bool) (R : List Int) (x : Int) (hL : L.length ≤ 1048576) : impl_Heap_isRef.f F L R x = some (okRef L x) := by
  unfold impl_Heap_isRef.f
  by_cases h1 : x = -1
  · rw [if_pos h1]
    simp [okRef, h1]
  · rw [if_neg h1]
    unfold impl_Heap_isLive.f
    have e : wrap64 ((L.length : Int) - 1) = (L.length : Int) - 1 := by unfold wrap64; omega
    rw [e]
    by_cases h2 : 0 ≤ x ∧ x < L.length
    · rw [wi_yes x 0 _ (by omega)]
      simp only [Option.bind_some, if_true]
      rw [if_pos h2.1, if_pos h2.2]
      have er : rdOf false L x = L.getD x.toNat false := rfl
      simp [okRef, h1, h2.1, h2.2, er]
    · rw [wi_no x 0 _ (by omega)]
      have : okRef L x = false := by
        unfold okRef
        simp only [h1, decide_false, Bool.false_or, Bool.and_eq_false_iff, decide_eq_false_iff_not]
        omega
      simp [this]
theorem anyO_all (p : Int → Option Bool) (q : Int → Bool) (hp : ∀ x, p x = some (q x)) : ∀ l : List Int, anyO p l = some (l.any q)
  | [] => rfl
  | x :: xs => by
    simp only [anyO, hp x, Option.bind_some, List.any_cons]
    cases q x with
    | true => simp
    | false => simp [anyO_all p q hp xs]
theorem rootsAny (F : List (List Int)) (L : List Bool) (R : List Int) (hL : L.length ≤ 1048576) (l : List Int) : slices_ContainsFunc_at_isHeapOf_1.f l F L R = some (!(l.all (okRef L))) := by
  unfold slices_ContainsFunc_at_isHeapOf_1.f
  rw [anyO_all (impl_isHeapOf_1.f F L R) (fun x => !okRef L x) (fun x => by unfold impl_isHeapOf_1.f; rw [isRef_f F L R x hL]; rfl) l]
  congr 1
  induction l with
  | nil => rfl
  | cons x xs ih => simp only [List.any_cons, List.all_cons, ih, Bool.not_and]
theorem iGood_l1 (F : List (List Int)) (L : List Bool) (R : List Int) (hL : L.length ≤ 1048576) (n i0 : Int) (row : List Int) (hr : row.length ≤ 3) : ∀ (d k i : Nat), row.length = i + d → d < k →
    ∃ k', k - d ≤ k' + 1 ∧ impl_isHeapOf.l1 k F n i0 row (row.length : Int) (i : Int) F L R = if (row.drop i).all (okRef L) = true then impl_isHeapOf.l0 k' F n (wrap64 (i0 + 1)) F L R else some false := by
  intro d
  induction d with
  | zero =>
    intro k i hi hk
    obtain ⟨k, rfl⟩ : ∃ m, k = m + 1 := ⟨k - 1, by omega⟩
    have hn : ¬ ((i : Int) < (row.length : Int)) := by omega
    refine ⟨k, by omega, ?_⟩
    simp only [impl_isHeapOf.l1, if_neg hn]
    rw [List.drop_of_length_le (by omega)]
    rfl
  | succ d ih =>
    intro k i hi hk
    obtain ⟨k, rfl⟩ : ∃ m, k = m + 1 := ⟨k - 1, by omega⟩
    have hp : (i : Int) < (row.length : Int) := by omega
    have h0 : 0 ≤ (i : Int) := by omega
    have hx : rd row (i : Int) = row[i] := by
      unfold rd
      rw [Int.toNat_natCast, List.getD_eq_getElem?_getD, List.getElem?_eq_getElem (by omega : i < row.length)]
      rfl
    obtain ⟨k', h1, h2⟩ := ih k (i + 1) (by omega) (by omega)
    refine ⟨k', by omega, ?_⟩
    simp only [impl_isHeapOf.l1, if_pos hp, if_pos h0, w1 i (by omega), hx, h2]
    rw [List.drop_eq_getElem_cons (by omega : i < row.length), List.all_cons, isRef_f F L R _ hL]
    cases okRef L row[i] with
    | true => simp
    | false => simp
theorem iGood_l0 (F : List (List Int)) (L : List Bool) (R : List Int) (hF : F.length ≤ 12) (hL : L.length = F.length) : ∀ (d k i : Nat), F.length = i + d → 8 * d + 20 < k → impl_isHeapOf.l0 k F (F.length : Int) (i : Int) F L R = some (okObjs F L i (F.drop i) && R.all (okRef L)) := by
  intro d
  induction d with
  | zero =>
    intro k i hi hk
    obtain ⟨k, rfl⟩ : ∃ m, k = m + 1 := ⟨k - 1, by omega⟩
    have hn : ¬ ((i : Int) < (F.length : Int)) := by omega
    simp only [impl_isHeapOf.l0, if_neg hn]
    rw [List.drop_of_length_le (by omega), rootsAny F L R (by omega) R]
    simp [okObjs]
  | succ d ih =>
    intro k i hi hk
    obtain ⟨k, rfl⟩ : ∃ m, k = m + 2 := ⟨k - 2, by omega⟩
    have hp : (i : Int) < (F.length : Int) := by omega
    have hp2 : (i : Int) < (L.length : Int) := by omega
    have h0 : 0 ≤ (i : Int) := by omega
    have hx : rd_L1 F (i : Int) = F[i] := by
      unfold rd_L1
      rw [Int.toNat_natCast, List.getD_eq_getElem?_getD, List.getElem?_eq_getElem (by omega : i < F.length)]
      rfl
    have er : rdOf false L (i : Int) = L.getD i false := by unfold rdOf; rw [Int.toNat_natCast]
    rw [show k + 2 = (k + 1) + 1 from rfl]
    simp only [impl_isHeapOf.l0, if_pos hp, if_pos hp2, if_pos h0, hx, er, impl_isHeapOf.j2]
    rw [List.drop_eq_getElem_cons (by omega : i < F.length)]
    simp only [okObjs]
    generalize F[i] = row
    by_cases h3 : (row.length : Int) > 3
    · rw [if_pos h3]
      have : okObj L i row = false := by simp [okObj]; omega
      rw [this]
      rfl
    · have h3' : row.length ≤ 3 := by omega
      rw [if_neg h3]
      obtain ⟨k', hk1, hk2⟩ := iGood_l1 F L R (by omega) (F.length : Int) (i : Int) row h3' row.length k 0 (by omega) (by omega)
      have hk2' : impl_isHeapOf.l1 k F (F.length : Int) (i : Int) row (row.length : Int) 0 F L R = if row.all (okRef L) = true then impl_isHeapOf.l0 k' F (F.length : Int) (wrap64 ((i : Int) + 1)) F L R else some false := by simpa using hk2
      rw [hk2', w1 i (by omega), ih k' (i + 1) (by omega) (by omega)]
      have hok : okObj L i row = ((L.getD i false || decide (row.length = 0)) && row.all (okRef L)) := by
        unfold okObj
        rw [decide_eq_true h3', Bool.true_and]
      rw [hok]
      cases L.getD i false with
      | true =>
        cases row.all (okRef L) with
        | true => simp only [if_true, Bool.false_eq_true, if_false, Bool.true_or, Bool.true_and]
        | false => simp only [if_true, Bool.and_false, Bool.false_and, Bool.false_eq_true, if_false]
      | false =>
        by_cases hz : (row.length : Int) > 0
        · have hz' : ¬ row.length = 0 := by omega
          rw [if_neg (by simp), decide_eq_true hz, decide_eq_false hz']
          rfl
        · have hz' : row.length = 0 := by omega
          rw [if_neg (by simp), decide_eq_false hz, decide_eq_true hz']
          cases row.all (okRef L) with
          | true => simp only [if_true, Bool.false_eq_true, if_false, Bool.or_true, Bool.true_and]
          | false => simp only [Bool.and_false, Bool.false_and, Bool.false_eq_true, if_false]
theorem iGood_f (F : List (List Int)) (L : List Bool) (R : List Int) (k : Nat) (hk : 200 ≤ k) (hm : HSize F L R) : impl_isHeap.f k F L R = some (goodHeap F L R) := by
  obtain ⟨k, rfl⟩ : ∃ m, k = m + 1 := ⟨k - 1, by omega⟩
  unfold impl_isHeap.f impl_isHeapOf.f
  by_cases h1 : (F.length : Int) > 12
  · rw [if_pos h1]
    have : goodHeap F L R = false := by
      have h1' : ¬ F.length ≤ 12 := by omega
      simp [goodHeap, h1']
    rw [this]
    simp [impl_isHeapOf.j0]
  · have h1' : F.length ≤ 12 := by omega
    rw [if_neg h1]
    by_cases h2 : (L.length : Int) = (F.length : Int)
    · have h2' : L.length = F.length := by omega
      rw [if_pos h2]
      by_cases h3 : (R.length : Int) > 4
      · rw [decide_eq_true h3]
        have : goodHeap F L R = false := by
          have h3' : ¬ R.length ≤ 4 := by omega
          simp [goodHeap, h3']
        rw [this]
        simp [impl_isHeapOf.j0]
      · have h3' : R.length ≤ 4 := by omega
        rw [decide_eq_false h3]
        simp only [impl_isHeapOf.j0]
        have e0 := iGood_l0 F L R h1' h2' F.length k 0 (by omega) (by omega)
        have e0' : impl_isHeapOf.l0 k F (F.length : Int) 0 F L R = some (okObjs F L 0 F && R.all (okRef L)) := e0
        rw [if_neg (by simp), e0']
        simp only [Option.bind_some]
        congr 1
        unfold goodHeap
        rw [decide_eq_true h1', decide_eq_true h2', decide_eq_true h3']
        simp [Bool.and_comm]
    · have h2' : ¬ L.length = F.length := by omega
      rw [if_neg h2]
      have : goodHeap F L R = false := by simp [goodHeap, h2']
      rw [this]
      simp [impl_isHeapOf.j0]
theorem good_facts (F : List (List Int)) (L : List Bool) (R : List Int) (h : goodHeap F L R = true) : F.length ≤ 12 ∧ L.length = F.length ∧ R.length ≤ 4 ∧ R.all (okRef L) = true ∧ okObjs F L 0 F = true := by
  unfold goodHeap at h
  simp only [Bool.and_eq_true, decide_eq_true_eq] at h
  exact ⟨h.1.1.1.1, h.1.1.1.2, h.1.1.2, h.1.2, h.2⟩
theorem okObjs_at (F0 : List (List Int)) (L : List Bool) : ∀ (F : List (List Int)) (k j : Nat), okObjs F0 L k F = true → (h : j < F.length) → okObj L (k + j) F[j] = true
  | [], _, _, _, h => by simp at h
  | row :: rest, k, 0, h0, _ => by
    simp only [okObjs, Bool.and_eq_true] at h0
    exact h0.1
  | row :: rest, k, j + 1, h0, h => by
    simp only [okObjs, Bool.and_eq_true] at h0
    have := okObjs_at F0 L rest (k + 1) j h0.2 (by simp at h; omega)
    rw [show k + (j + 1) = k + 1 + j by omega]
    exact this
theorem good_row (F : List (List Int)) (L : List Bool) (R : List Int) (h : goodHeap F L R = true) (j : Nat) (hj : j < F.length) : F[j].length ≤ 3 ∧ ∀ x ∈ F[j], x = -1 ∨ (0 ≤ x ∧ x < L.length ∧ L.getD x.toNat false = true) := by
  have := okObjs_at F L F 0 j (good_facts F L R h).2.2.2.2 hj
  rw [Nat.zero_add] at this
  unfold okObj at this
  simp only [Bool.and_eq_true, decide_eq_true_eq, List.all_eq_true] at this
  refine ⟨this.1.1, fun x hx => ?_⟩
  have := this.2 x hx
  unfold okRef at this
  simp only [Bool.or_eq_true, Bool.and_eq_true, decide_eq_true_eq] at this
  rcases this with h | h
  · exact .inl h
  · exact .inr ⟨h.1.1, h.1.2, h.2⟩
theorem root_refs (F : List (List Int)) (L : List Bool) (R : List Int) (h : goodHeap F L R = true) : ∀ x ∈ R, x = -1 ∨ (0 ≤ x ∧ x < F.length) := by
  obtain ⟨h1, h2, h3, h4, _⟩ := good_facts F L R h
  intro x hx
  have := List.all_eq_true.mp h4 x hx
  unfold okRef at this
  simp only [Bool.or_eq_true, Bool.and_eq_true, decide_eq_true_eq] at this
  omega
/-- What is reached from fr over what may be passed. -/
def Rch (F : List (List Int)) (may fr : Int → Prop) (x : Int) : Prop := ∀ T : Int → Prop, (∀ y, fr y → 0 ≤ y → may y → T y) → (∀ y z, T y → z ∈ F.getD y.toNat [] → 0 ≤ z → may z → T z) → T x
theorem Rch.base {F : List (List Int)} {may fr : Int → Prop} {x : Int} (h : fr x) (h0 : 0 ≤ x) (hm : may x) : Rch F may fr x := fun _ h1 _ => h1 x h h0 hm
theorem Rch.step {F : List (List Int)} {may fr : Int → Prop} {x y : Int} (hx : Rch F may fr x) (hy : y ∈ F.getD x.toNat []) (h0 : 0 ≤ y) (hm : may y) : Rch F may fr y := fun T h1 h2 => h2 x y (hx T h1 h2) hy h0 hm
def wt : List Bool → List (List Int) → Nat
  | b :: bs, r :: rs => (if b = true then 0 else r.length) + wt bs rs
  | _, _ => 0
theorem wt_set : ∀ (bs : List Bool) (F : List (List Int)) (i : Nat), bs.length = F.length → i < F.length → bs.getD i false = false → wt (bs.set i true) F + (F.getD i []).length = wt bs F
  | [], F, i, h, hi, _ => by
    simp only [List.length_nil] at h
    omega
  | b :: bs, [], _, h, _, _ => by simp at h
  | b :: bs, r :: rs, 0, h, hi, hb => by
    have hb' : b = false := hb
    subst hb'
    simp only [List.set_cons_zero, wt, List.getD_cons_zero, if_true, Bool.false_eq_true, if_false]
    omega
  | b :: bs, r :: rs, i + 1, h, hi, hb => by
    have := wt_set bs rs i (by simpa using h) (by simpa using hi) (by simpa using hb)
    simp only [List.set_cons_succ, wt, List.getD_cons_succ]
    omega
theorem wt_le : ∀ (bs : List Bool) (F : List (List Int)), (∀ r ∈ F, r.length ≤ 3) → wt bs F ≤ 3 * F.length
  | [], F, _ => by simp [wt]
  | b :: bs, [], _ => by simp [wt]
  | b :: bs, r :: rs, h => by
    have h1 := wt_le bs rs (fun x hx => h x (List.mem_cons_of_mem _ hx))
    have h2 := h r List.mem_cons_self
    simp only [wt, List.length_cons]
    split <;> omega
theorem gset (out : List Bool) (a i : Nat) (ha : a < out.length) : (out.set a true).getD i false = (decide (i = a) || out.getD i false) := by
  rw [List.getD_eq_getElem?_getD, List.getElem?_set, List.getD_eq_getElem?_getD]
  by_cases h : a = i
  · subst h
    simp [ha]
  · simp [h, Ne.symm h]
structure RInv (F : List (List Int)) (may fr : Int → Prop) (out : List Bool) (q : List Int) : Prop where
  len : out.length = F.length
  qb : ∀ x ∈ q, x < (F.length : Int)
  rq : ∀ x ∈ q, 0 ≤ x → may x → Rch F may fr x
  so : ∀ i : Nat, out.getD i false = true → Rch F may fr (i : Int)
  cf : ∀ x, fr x → 0 ≤ x → may x → out.getD x.toNat false = true ∨ x ∈ q
  cs : ∀ i : Nat, out.getD i false = true → ∀ y ∈ F.getD i [], 0 ≤ y → may y → out.getD y.toNat false = true ∨ y ∈ q
section
variable {F : List (List Int)} {may fr : Int → Prop} {out : List Bool} {q q' q2 : List Int} {x : Int}
theorem RInv.skip (h : RInv F may fr out q) (hq : ∀ y, y ∈ q ↔ y = x ∨ y ∈ q') (hx : x < 0 ∨ out.getD x.toNat false = true ∨ ¬ may x) : RInv F may fr out q' := by
  have key : ∀ y : Int, 0 ≤ y → may y → (out.getD y.toNat false = true ∨ y ∈ q) → (out.getD y.toNat false = true ∨ y ∈ q') := by
    intro y h0 hm h1
    rcases h1 with h1 | h1
    · exact .inl h1
    · rcases (hq y).1 h1 with e | h2
      · subst e
        rcases hx with h3 | h3 | h3
        · omega
        · exact .inl h3
        · exact absurd hm h3
      · exact .inr h2
  exact ⟨h.len, fun y hy => h.qb y ((hq y).2 (.inr hy)), fun y hy => h.rq y ((hq y).2 (.inr hy)), h.so, fun y hf h0 hm => key y h0 hm (h.cf y hf h0 hm), fun i hi y hy h0 hm => key y h0 hm (h.cs i hi y hy h0 hm)⟩
theorem RInv.visit (h : RInv F may fr out q) (hq : ∀ y, y ∈ q ↔ y = x ∨ y ∈ q') (hq2 : ∀ y, y ∈ q2 ↔ y ∈ q' ∨ y ∈ F.getD x.toNat []) (h0 : 0 ≤ x) (hm : may x) (hF : ∀ r ∈ F, ∀ y ∈ r, y < (F.length : Int)) : RInv F may fr (out.set x.toNat true) q2 := by
  have hxq : x ∈ q := (hq x).2 (.inl rfl)
  have hxb := h.qb x hxq
  have hl := h.len
  have ha : x.toNat < out.length := by omega
  have hR := h.rq x hxq h0 hm
  have hrow : ∀ y ∈ F.getD x.toNat [], y < (F.length : Int) := by
    intro y hy
    rw [List.getD_eq_getElem?_getD, List.getElem?_eq_getElem (by omega : x.toNat < F.length)] at hy
    exact hF _ (List.getElem_mem _) y hy
  have key : ∀ y : Int, 0 ≤ y → (out.getD y.toNat false = true ∨ y ∈ q) → ((out.set x.toNat true).getD y.toNat false = true ∨ y ∈ q2) := by
    intro y hy0 h1
    rw [gset out _ _ ha]
    rcases h1 with h1 | h1
    · exact .inl (by rw [h1]; simp)
    · rcases (hq y).1 h1 with e | h2
      · subst e
        exact .inl (by simp)
      · exact .inr ((hq2 y).2 (.inl h2))
  refine ⟨by rw [List.length_set]; exact hl, fun y hy => ?_, fun y hy hy0 hym => ?_, fun i hi => ?_, fun y hf hy0 hym => key y hy0 (h.cf y hf hy0 hym), fun i hi y hy hy0 hym => ?_⟩
  · rcases (hq2 y).1 hy with h1 | h1
    · exact h.qb y ((hq y).2 (.inr h1))
    · exact hrow y h1
  · rcases (hq2 y).1 hy with h1 | h1
    · exact h.rq y ((hq y).2 (.inr h1)) hy0 hym
    · exact Rch.step hR h1 hy0 hym
  · rw [gset out _ _ ha] at hi
    by_cases e : i = x.toNat
    · have : (i : Int) = x := by omega
      rw [this]
      exact hR
    · simp [e] at hi
      exact h.so i (by simpa using hi)
  · rw [gset out _ _ ha] at hi
    by_cases e : i = x.toNat
    · subst e
      exact .inr ((hq2 y).2 (.inr hy))
    · simp [e] at hi
      exact key y hy0 (h.cs i (by simpa using hi) y hy hy0 hym)
theorem RInv.done (h : RInv F may fr out []) {y : Int} (hy : Rch F may fr y) : 0 ≤ y ∧ out.getD y.toNat false = true := by
  refine hy (fun y => 0 ≤ y ∧ out.getD y.toNat false = true) (fun z hz h0 hm => ⟨h0, ?_⟩) (fun z z2 hz hz2 h0 hm => ⟨h0, ?_⟩)
  · rcases h.cf z hz h0 hm with h1 | h1
    · exact h1
    · simp at h1
  · rcases h.cs z.toNat hz.2 z2 hz2 h0 hm with h1 | h1
    · exact h1
    · simp at h1
theorem same_out {o1 o2 : List Bool} {n : Nat} (l1 : o1.length = n) (l2 : o2.length = n) (h : ∀ i : Nat, i < n → (o1.getD i false = true ↔ o2.getD i false = true)) : o1 = o2 := by
  apply List.ext_getElem (by omega)
  intro i h1 h2
  have := h i (by omega)
  rw [List.getD_eq_getElem?_getD, List.getElem?_eq_getElem h1, List.getD_eq_getElem?_getD, List.getElem?_eq_getElem h2] at this
  simp only [Option.getD_some] at this
  cases hA : o1[i] <;> cases hB : o2[i] <;> simp [hA, hB] at this ⊢
theorem RInv.same {o1 o2 : List Bool} (h1 : RInv F may fr o1 []) (h2 : RInv F may fr o2 []) : o1 = o2 := by
  refine same_out h1.len h2.len (fun i _ => ⟨fun h => ?_, fun h => ?_⟩)
  · have := (h2.done (h1.so i h)).2
    simpa using this
  · have := (h1.done (h2.so i h)).2
    simpa using this
theorem getD_rep (n i : Nat) : (List.replicate n false).getD i false = false := by
  rw [List.getD_eq_getElem?_getD, List.getElem?_replicate]
  split <;> rfl
theorem RInv.init (hq : ∀ x, fr x ↔ x ∈ q) (hb : ∀ x ∈ q, x < (F.length : Int)) : RInv F may fr (List.replicate F.length false) q :=
  ⟨List.length_replicate, hb, fun x hx h0 hm => Rch.base ((hq x).2 hx) h0 hm, fun i hi => by rw [getD_rep] at hi; simp at hi, fun x hf _ _ => .inr ((hq x).1 hf), fun i hi => by rw [getD_rep] at hi; simp at hi⟩
end
theorem from_l0 (F : List (List Int)) (L : List Bool) (R : List Int) (hF : ∀ r ∈ F, ∀ y ∈ r, y < (F.length : Int)) (fr : Int → Prop) : ∀ (μ k : Nat) (out : List Bool) (q : List Int), q.length + wt out F ≤ μ → μ ≤ 1000 → μ < k → RInv F (fun _ => True) fr out q →
    ∃ r, RInv F (fun _ => True) fr r [] ∧ spec_l5From.l0 k out q F L R = some r := by
  intro μ
  induction μ with
  | zero =>
    intro k out q hm h1 hk hi
    obtain ⟨k, rfl⟩ : ∃ m, k = m + 1 := ⟨k - 1, by omega⟩
    have hq : q = [] := List.eq_nil_of_length_eq_zero (by omega)
    subst hq
    exact ⟨out, hi, by simp [spec_l5From.l0]⟩
  | succ μ ih =>
    intro k out q hm h1 hk hi
    obtain ⟨k, rfl⟩ : ∃ m, k = m + 1 := ⟨k - 1, by omega⟩
    cases q with
    | nil => exact ⟨out, hi, by simp [spec_l5From.l0]⟩
    | cons x q' =>
      simp only [List.length_cons] at hm
      have g1 : 0 < ((x :: q').length : Int) := by simp only [List.length_cons]; omega
      have g0 : ((x :: q').length : Int) > 0 := g1
      have g2 : 1 ≤ ((x :: q').length : Int) := g1
      have e1 : (x :: q').drop (1 : Int).toNat = q' := rfl
      have e2 : rd (x :: q') 0 = x := rfl
      have hmem : ∀ y, y ∈ x :: q' ↔ y = x ∨ y ∈ q' := fun y => List.mem_cons
      have hl := hi.len
      have hxb := hi.qb x List.mem_cons_self
      simp only [spec_l5From.l0, if_pos g0, if_pos g1, if_pos g2, e1, e2, Option.bind_some]
      by_cases hx0 : x < 0
      · simp only [if_pos hx0]
        exact ih k out q' (by omega) (by omega) (by omega) (hi.skip hmem (.inl hx0))
      · have h0 : 0 ≤ x := by omega
        simp only [if_neg hx0, if_pos h0, if_pos (show x < (out.length : Int) by omega)]
        by_cases ho : rdOf false out x = true
        · simp only [if_pos ho]
          exact ih k out q' (by omega) (by omega) (by omega) (hi.skip hmem (.inr (.inl ho)))
        · have hw := wt_set out F x.toNat hl (by omega) (by simpa [rdOf] using ho)
          have er : rd_L1 F x = F.getD x.toNat [] := rfl
          have hlim : q'.length + (rd_L1 F x).length < 17592186044416 := by rw [er]; omega
          simp only [if_neg ho, if_pos hxb, if_pos hlim]
          rw [er]
          refine ih k _ _ ?_ (by omega) (by omega) (hi.visit hmem (q2 := q' ++ F.getD x.toNat []) (fun y => List.mem_append) h0 trivial hF)
          rw [List.length_append]
          omega
theorem reach_l0 (F : List (List Int)) (L : List Bool) (R : List Int) (hF : ∀ r ∈ F, ∀ y ∈ r, y < (F.length : Int)) (fr : Int → Prop) : ∀ (μ k : Nat) (out : List Bool) (q : List Int), q.length + wt out F ≤ μ → μ ≤ 1000 → μ < k → RInv F (fun _ => True) fr out q →
    ∃ r, RInv F (fun _ => True) fr r [] ∧ impl_Heap_reach_nil.l0 k out q F L R = some r := by
  intro μ
  induction μ with
  | zero =>
    intro k out q hm h1 hk hi
    obtain ⟨k, rfl⟩ : ∃ m, k = m + 1 := ⟨k - 1, by omega⟩
    have hq : q = [] := List.eq_nil_of_length_eq_zero (by omega)
    subst hq
    exact ⟨out, hi, by simp [impl_Heap_reach_nil.l0]⟩
  | succ μ ih =>
    intro k out q hm h1 hk hi
    obtain ⟨k, rfl⟩ : ∃ m, k = m + 1 := ⟨k - 1, by omega⟩
    rcases List.eq_nil_or_concat q with hq | ⟨q', x, hq⟩
    · subst hq
      exact ⟨out, hi, by simp [impl_Heap_reach_nil.l0]⟩
    · rw [List.concat_eq_append] at hq
      subst hq
      have hql : (q' ++ [x]).length = q'.length + 1 := by simp
      rw [hql] at hm
      have g1 : ((q' ++ [x]).length : Int) > 0 := by rw [hql]; omega
      have ew : wrap64 (((q' ++ [x]).length : Int) - 1) = (q'.length : Int) := by rw [hql]; unfold wrap64; omega
      have g2 : 0 ≤ (q'.length : Int) := by omega
      have g3 : (q'.length : Int) < ((q' ++ [x]).length : Int) := by rw [hql]; omega
      have g4 : (q'.length : Int) ≤ ((q' ++ [x]).length : Int) := by rw [hql]; omega
      have e1 : (q' ++ [x]).take ((q'.length : Int)).toNat = q' := by rw [Int.toNat_natCast]; exact List.take_left' rfl
      have e2 : rd (q' ++ [x]) (q'.length : Int) = x := by
        unfold rd
        rw [Int.toNat_natCast, List.getD_eq_getElem?_getD, List.getElem?_append_right (Nat.le_refl _), Nat.sub_self]
        rfl
      have hmem : ∀ y, y ∈ q' ++ [x] ↔ y = x ∨ y ∈ q' := fun y => by simp [or_comm]
      have hl := hi.len
      have hxb := hi.qb x (by simp)
      simp only [impl_Heap_reach_nil.l0, if_pos g1, ew, if_pos g2, if_pos g3, if_pos g4, e1, e2, Option.bind_some]
      by_cases hx0 : x < 0
      · simp only [if_pos hx0]
        exact ih k out q' (by omega) (by omega) (by omega) (hi.skip hmem (.inl hx0))
      · have h0 : 0 ≤ x := by omega
        simp only [if_neg hx0, if_pos h0, if_pos (show x < (out.length : Int) by omega)]
        by_cases ho : rdOf false out x = true
        · simp only [if_pos ho]
          exact ih k out q' (by omega) (by omega) (by omega) (hi.skip hmem (.inr (.inl ho)))
        · have hw := wt_set out F x.toNat hl (by omega) (by simpa [rdOf] using ho)
          have er : rd_L1 F x = F.getD x.toNat [] := rfl
          have hlim : q'.length + (rd_L1 F x).length < 17592186044416 := by rw [er]; omega
          simp only [if_neg ho, if_pos hxb, if_pos hlim]
          rw [er]
          refine ih k _ _ ?_ (by omega) (by omega) (hi.visit hmem (q2 := q' ++ F.getD x.toNat []) (fun y => List.mem_append) h0 trivial hF)
          rw [List.length_append]
          omega
theorem good_rows (F : List (List Int)) (L : List Bool) (R : List Int) (h : goodHeap F L R = true) : (∀ r ∈ F, r.length ≤ 3) ∧ ∀ r ∈ F, ∀ y ∈ r, y < (F.length : Int) := by
  obtain ⟨h1, h2, _⟩ := good_facts F L R h
  refine ⟨fun r hr => ?_, fun r hr y hy => ?_⟩ <;> obtain ⟨j, hj, rfl⟩ := List.mem_iff_getElem.1 hr
  · exact (good_row F L R h j hj).1
  · rcases (good_row F L R h j hj).2 y hy with e | e
    · omega
    · omega
theorem reach_both (F : List (List Int)) (L : List Bool) (R q : List Int) (k : Nat) (hk : 1100 ≤ k) (h : goodHeap F L R = true) (hq : q.length ≤ 100) (hb : ∀ x ∈ q, x < (F.length : Int)) : ∃ r, RInv F (fun _ => True) (fun x => x ∈ q) r [] ∧ spec_l5From.f k F L R q = some r ∧ impl_Heap_reach_nil.f k F L R q [] = some r := by
  obtain ⟨h1, h2, h3, _⟩ := good_facts F L R h
  obtain ⟨r1, r2⟩ := good_rows F L R h
  have hw := wt_le (List.replicate F.length false) F r1
  have h0 : RInv F (fun _ => True) (fun x => x ∈ q) (List.replicate F.length false) q := RInv.init (fun _ => Iff.rfl) hb
  obtain ⟨o1, i1, e1⟩ := from_l0 F L R r2 (fun x => x ∈ q) 1000 k _ q (by omega) (by omega) (by omega) h0
  obtain ⟨o2, i2, e2⟩ := reach_l0 F L R r2 (fun x => x ∈ q) 1000 k _ q (by omega) (by omega) (by omega) h0
  obtain rfl := i1.same i2
  refine ⟨o1, i1, ?_, ?_⟩
  · unfold spec_l5From.f
    rw [if_pos (by omega), Int.toNat_natCast, if_pos (by omega)]
    have hlim : ([] : List Int).length + q.length < 17592186044416 := by simp; omega
    simp only [Option.bind_some, if_pos hlim, List.nil_append]
    exact e1
  · unfold impl_Heap_reach_nil.f slices_Clone_int_int.f
    rw [if_pos (by omega), Int.toNat_natCast, if_pos (by omega)]
    have hlim : q.length < 17592186044416 := by omega
    simp [hlim, e2]
theorem l1s_l0 (a b : List Int) (hl : a.length = b.length) (hb : a.length ≤ 1048576) : ∀ (d k i : Nat), a.length = i + d → d < k → spec_l1Same.l0 k a b (a.length : Int) (i : Int) = some (decide (a.drop i = b.drop i)) ∧ slices_Equal_int_int.l0 k a b (a.length : Int) (i : Int) = some (decide (a.drop i = b.drop i)) := by
  intro d
  induction d with
  | zero =>
    intro k i hi hk
    obtain ⟨k, rfl⟩ : ∃ m, k = m + 1 := ⟨k - 1, by omega⟩
    have hn : ¬ ((i : Int) < (a.length : Int)) := by omega
    simp only [spec_l1Same.l0, slices_Equal_int_int.l0, if_neg hn]
    rw [List.drop_of_length_le (by omega), List.drop_of_length_le (by omega)]
    simp
  | succ d ih =>
    intro k i hi hk
    obtain ⟨k, rfl⟩ : ∃ m, k = m + 1 := ⟨k - 1, by omega⟩
    have hp : (i : Int) < (a.length : Int) := by omega
    have hp2 : (i : Int) < (b.length : Int) := by omega
    have h0 : 0 ≤ (i : Int) := by omega
    have hx : rd a (i : Int) = a[i] := by
      unfold rd
      rw [Int.toNat_natCast, List.getD_eq_getElem?_getD, List.getElem?_eq_getElem (by omega : i < a.length)]
      rfl
    have hy : rd b (i : Int) = b[i] := by
      unfold rd
      rw [Int.toNat_natCast, List.getD_eq_getElem?_getD, List.getElem?_eq_getElem (by omega : i < b.length)]
      rfl
    simp only [spec_l1Same.l0, slices_Equal_int_int.l0, if_pos hp, if_pos hp2, if_pos h0, hx, hy, w1 i (by omega)]
    have key : decide (a.drop i = b.drop i) = (decide (a[i] = b[i]) && decide (a.drop (i + 1) = b.drop (i + 1))) := by
      rw [List.drop_eq_getElem_cons (by omega : i < a.length), List.drop_eq_getElem_cons (by omega : i < b.length)]
      simp only [List.cons.injEq, Bool.decide_and]
    rw [key]
    by_cases hc : a[i] = b[i]
    · obtain ⟨e1, e2⟩ := ih k (i + 1) (by omega) (by omega)
      simp only [if_pos hc]
      rw [e1, e2, decide_eq_true hc, Bool.true_and]
      exact ⟨rfl, rfl⟩
    · simp only [if_neg hc]
      rw [decide_eq_false hc, Bool.false_and]
      exact ⟨rfl, rfl⟩
theorem l1s_f (a b : List Int) (ha : a.length ≤ 1048576) (k : Nat) (hk : a.length < k) : spec_l1Same.f k a b = some (decide (a = b)) ∧ slices_Equal_int_int.f k a b = some (decide (a = b)) := by
  unfold spec_l1Same.f slices_Equal_int_int.f
  by_cases hl : a.length = b.length
  · have hl' : (a.length : Int) = (b.length : Int) := by omega
    have e := l1s_l0 a b hl ha a.length k 0 (by omega) hk
    simp only [if_pos hl']
    simpa using e
  · have hl' : ¬ (a.length : Int) = (b.length : Int) := by omega
    have hne : ¬ a = b := fun h => hl (by rw [h])
    simp only [if_neg hl']
    simp [hne]
theorem same_l0 (A B : List (List Int)) (LA LB : List Bool) (RA RB : List Int) (x y : List Bool) (hx : x.length = A.length) (hy : y.length = B.length) (hA : A.length ≤ 12) (hB : B.length ≤ 12) (rA : ∀ r ∈ A, r.length ≤ 3) : ∀ (d kS kI i : Nat), (if x.length < y.length then y.length else x.length) = i + d → 2 * d + 100 < kS → d + 100 < kI →
    ∃ r, spec_l5Same.l0 kS x y (i : Int) A LA RA B LB RB = some r ∧ impl_SameReached.l0 kI x y (mx (x.length : Int) (y.length : Int)) (i : Int) A LA RA B LB RB = some (r, true) := by
  have hmx : mx (x.length : Int) (y.length : Int) = ((if x.length < y.length then y.length else x.length : Nat) : Int) := by
    unfold mx
    by_cases h : x.length < y.length
    · rw [if_pos (by omega), if_pos h]
    · rw [if_neg (by omega), if_neg h]
  intro d
  induction d with
  | zero =>
    intro kS kI i hi hk1 hk2
    obtain ⟨kS, rfl⟩ : ∃ m, kS = m + 2 := ⟨kS - 2, by omega⟩
    obtain ⟨kI, rfl⟩ : ∃ m, kI = m + 1 := ⟨kI - 1, by omega⟩
    have n1 : ¬ (i : Int) < (x.length : Int) := by split at hi <;> omega
    have n2 : ¬ (i : Int) < (y.length : Int) := by split at hi <;> omega
    have n3 : ¬ (i : Int) < mx (x.length : Int) (y.length : Int) := by rw [hmx, hi]; omega
    refine ⟨true, ?_, ?_⟩
    · rw [show kS + 2 = (kS + 1) + 1 by omega]
      simp [spec_l5Same.l0, spec_l5Same.j1, n1, n2]
    · simp only [impl_SameReached.l0, if_neg n3]
  | succ d ih =>
    intro kS kI i hi hk1 hk2
    obtain ⟨kS, rfl⟩ : ∃ m, kS = m + 2 := ⟨kS - 2, by omega⟩
    obtain ⟨kI, rfl⟩ : ∃ m, kI = m + 1 := ⟨kI - 1, by omega⟩
    obtain ⟨r, e1, e2⟩ := ih kS kI (i + 1) (by omega) (by omega) (by omega)
    have h0 : 0 ≤ (i : Int) := by omega
    have hib : i ≤ 12 := by split at hi <;> omega
    have p3 : (i : Int) < mx (x.length : Int) (y.length : Int) := by rw [hmx, hi]; omega
    rw [show kS + 2 = (kS + 1) + 1 by omega]
    by_cases c1 : (i : Int) < (x.length : Int)
    · have c1' : (i : Int) < (A.length : Int) := by omega
      by_cases c2 : (i : Int) < (y.length : Int)
      · have c2' : (i : Int) < (B.length : Int) := by omega
        have hrA : (rd_L1 A (i : Int)).length ≤ 3 := by
          unfold rd_L1
          rw [Int.toNat_natCast, List.getD_eq_getElem?_getD, List.getElem?_eq_getElem (by omega : i < A.length)]
          exact rA _ (List.getElem_mem _)
        have q1 := (l1s_f (rd_L1 A (i : Int)) (rd_L1 B (i : Int)) (by omega) kS (by omega)).1
        have q2 := (l1s_f (rd_L1 A (i : Int)) (rd_L1 B (i : Int)) (by omega) kI (by omega)).2
        simp only [spec_l5Same.l0, spec_l5Same.j1, impl_SameReached.l0, if_pos c1, if_pos c2, if_pos h0, if_pos p3, if_pos c1', if_pos c2', if_true, q1, q2, Option.bind_some, w1 i (by omega)]
        by_cases c3 : (rdOf false x (i : Int) != rdOf false y (i : Int)) = true
        · simp only [if_pos c3]
          exact ⟨_, rfl, rfl⟩
        · simp only [if_neg c3]
          by_cases c4 : rdOf false x (i : Int) = true
          · simp only [if_pos c4]
            by_cases c5 : decide (rd_L1 A (i : Int) = rd_L1 B (i : Int)) = true
            · simp only [if_pos c5]
              exact ⟨r, e1, e2⟩
            · simp only [if_neg c5]
              exact ⟨_, rfl, rfl⟩
          · simp only [if_neg c4]
            exact ⟨r, e1, e2⟩
      · simp only [spec_l5Same.l0, spec_l5Same.j1, impl_SameReached.l0, if_pos c1, if_neg c2, if_pos h0, if_pos p3, if_true, w1 i (by omega)]
        cases c4 : rdOf false x (i : Int) with
        | true => exact ⟨false, by simp, by simp⟩
        | false =>
          refine ⟨r, ?_, ?_⟩
          · simpa using e1
          · simpa using e2
    · have c2 : (i : Int) < (y.length : Int) := by split at hi <;> omega
      simp only [spec_l5Same.l0, spec_l5Same.j1, impl_SameReached.l0, if_neg c1, if_pos c2, if_pos h0, if_pos p3, decide_eq_true c2, if_true, w1 i (by omega)]
      cases c4 : rdOf false y (i : Int) with
      | true => exact ⟨false, by simp, by simp⟩
      | false =>
        refine ⟨r, ?_, ?_⟩
        · simpa using e1
        · simpa using e2

theorem both (F : List (List Int)) (L : List Bool) (R : List Int) (F2 : List (List Int)) (L2 : List Bool) (R2 : List Int) (k : Nat) (hk : 3000 ≤ k) (hm : HSize F L R) (hm2 : HSize F2 L2 R2) : ∃ b1 b2, spec_SameReached.f k F L R F2 L2 R2 = some (b1, b2) ∧ impl_SameReached.f k F L R F2 L2 R2 = some (b1, b2) := by
  obtain ⟨k, rfl⟩ : ∃ m, k = m + 1 := ⟨k - 1, by omega⟩
  unfold spec_SameReached.f impl_SameReached.f
  rw [sGood_f F L R (k + 1) (by omega) hm, iGood_f F L R (k + 1) (by omega) hm, sGood_f F2 L2 R2 (k + 1) (by omega) hm2, iGood_f F2 L2 R2 (k + 1) (by omega) hm2]
  simp only [Option.bind_some]
  cases hg : goodHeap F L R with
  | false => exact ⟨false, false, rfl, by simp [impl_SameReached.j0]⟩
  | true =>
    cases hg2 : goodHeap F2 L2 R2 with
    | false => exact ⟨false, false, by simp, by simp [impl_SameReached.j0]⟩
    | true =>
      obtain ⟨h1, _, h3, _⟩ := good_facts F L R hg
      obtain ⟨i1, _, i3, _⟩ := good_facts F2 L2 R2 hg2
      have hrr := root_refs F L R hg
      have hrr2 := root_refs F2 L2 R2 hg2
      obtain ⟨x, hx, e1, _⟩ := reach_both F L R R (k + 1) (by omega) hg (by omega) (fun x hx => by have := hrr x hx; omega)
      obtain ⟨y, hy, e3, _⟩ := reach_both F2 L2 R2 R2 (k + 1) (by omega) hg2 (by omega) (fun x hx => by have := hrr2 x hx; omega)
      obtain ⟨x', hx', _, e2⟩ := reach_both F L R R k (by omega) hg (by omega) (fun x hx => by have := hrr x hx; omega)
      obtain ⟨y', hy', _, e4⟩ := reach_both F2 L2 R2 R2 k (by omega) hg2 (by omega) (fun x hx => by have := hrr2 x hx; omega)
      obtain rfl := hx.same hx'
      obtain rfl := hy.same hy'
      obtain ⟨q1, _⟩ := l1s_f R R2 (by omega) (k + 1) (by omega)
      obtain ⟨_, q2⟩ := l1s_f R R2 (by omega) k (by omega)
      obtain ⟨r, a1, a2⟩ := same_l0 F F2 L L2 R R2 x y hx.len hy.len h1 i1 (good_rows F L R hg).1 (if x.length < y.length then y.length else x.length) (k + 1) k 0 (by omega) (by have := hx.len; have := hy.len; split <;> omega) (by have := hx.len; have := hy.len; split <;> omega)
      have a1' : spec_l5Same.l0 (k + 1) x y 0 F L R F2 L2 R2 = some r := a1
      have a2' : impl_SameReached.l0 k x y (mx (x.length : Int) (y.length : Int)) 0 F L R F2 L2 R2 = some (r, true) := a2
      have s1 : spec_l5Reached.f (k + 1) F L R = some x := by
        unfold spec_l5Reached.f
        rw [e1]
        rfl
      have s2 : spec_l5Reached.f (k + 1) F2 L2 R2 = some y := by
        unfold spec_l5Reached.f
        rw [e3]
        rfl
      have s3 : impl_Heap_reached.f k F L R = some x := by
        unfold impl_Heap_reached.f
        rw [e2]
        rfl
      have s4 : impl_Heap_reached.f k F2 L2 R2 = some y := by
        unfold impl_Heap_reached.f
        rw [e4]
        rfl
      by_cases hr : R = R2
      · refine ⟨r, true, ?_, ?_⟩
        · simp only [if_true, spec_l5Same.f, s1, s2, q1, Option.bind_some, decide_eq_true hr, a1']
        · simp only [if_true, Bool.not_true, impl_SameReached.j0, q2, decide_eq_true hr, s3, s4, Option.bind_some, Bool.false_eq_true, if_false, a2']
      · refine ⟨false, true, ?_, ?_⟩
        · simp only [if_true, spec_l5Same.f, s1, s2, q1, Option.bind_some, decide_eq_false hr, Bool.false_eq_true, if_false]
        · simp only [if_true, Bool.not_true, impl_SameReached.j0, q2, decide_eq_false hr, Option.bind_some, Bool.false_eq_true, if_false]
theorem FnExactSameReached : laws_FnExactSameReached.Pure := by
  intro F L R F2 L2 R2 hF hL hR hF2 hL2 hR2
  obtain ⟨k, hk⟩ : ∃ k : Nat, 3000000 ≤ k := ⟨3000000, Nat.le_refl _⟩
  refine ⟨k, ?_⟩
  unfold laws_FnExactSameReached.f
  rcases szHeap_f F L R 1048576 k (by omega) hF.1 (fun x hx => (hF.2 x hx).1) hL.1 hR.1 (by omega) with e | ⟨b, e, hb0, hb1, hs⟩
  · rw [e]
    rfl
  · rw [e]
    simp only [Option.bind_some]
    rw [if_neg (by omega)]
    rcases szHeap_f F2 L2 R2 b k (by omega) hF2.1 (fun x hx => (hF2.2 x hx).1) hL2.1 hR2.1 (by omega) with e2 | ⟨b2, e2, hb2, _, hs2⟩
    · rw [e2]
      rfl
    · rw [e2]
      simp only [Option.bind_some]
      rw [if_neg (by omega)]
      obtain ⟨b1, b2, a1, a2⟩ := both F L R F2 L2 R2 k (by omega) hs hs2
      simp only [toHeap_f F L R k (by omega) hs, toHeap_f F2 L2 R2 k (by omega) hs2, Option.bind_some, a1, a2, eqHeap_f F L R k (by omega) hs, eqHeap_f F2 L2 R2 k (by omega) hs2, bne_self_eq_false, if_true]
      simp

end Go.Proofs.Ytmchgcilpgbalaa.Pure
