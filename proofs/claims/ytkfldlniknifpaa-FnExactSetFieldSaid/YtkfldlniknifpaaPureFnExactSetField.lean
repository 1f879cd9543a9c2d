/- SetField of the program returns what the reference returns, for every heap and all numbers, shares no memory with the heap and leaves it as it was. No condition. -/
import Derived.Test.YtkfldlniknifpaaQFnExactSetFieldx9
namespace Go.Proofs.Ytkfldlniknifpaa.Pure
set_option linter.unusedVariables false
set_option linter.unusedSimpArgs false
open Go.RowKit Go.Proofs.Ytkfldlniknifpaa.QFnExactSetField Go.Proofs.YtkfldlniknifpaaW.PrintWords Go.Proofs.YtkfldlniknifpaaW.PrintLast Go.Proofs.YtkfldlniknifpaaW.PrintMore

theorem w1 (i : Nat) (h : i < 9223372036854775000) : wrap64 ((i : Int) + 1) = ((i + 1 : Nat) : Int) := by unfold wrap64; omega
theorem toIntS_l0 (l : List Int) (hl : l.length ≤ 1099511627776) : ∀ (d k i : Nat) (acc : List Int), acc.length = l.length → l.length = i + d → d < k → (∀ j, j < i → acc[j]? = l[j]?) → laws_toIntS.l0 k l acc (i : Int) = some l := by
  intro d
  induction d with
  | zero =>
    intro k i acc ha hi hk hj
    obtain ⟨k, rfl⟩ : ∃ m, k = m + 1 := ⟨k - 1, by omega⟩
    simp only [laws_toIntS.l0]
    rw [if_neg (by omega)]
    congr 1
    apply List.ext_getElem?
    intro j
    by_cases h : j < i
    · exact hj j h
    · rw [List.getElem?_eq_none (by omega), List.getElem?_eq_none (by omega)]
  | succ d ih =>
    intro k i acc ha hi hk hj
    obtain ⟨k, rfl⟩ : ∃ m, k = m + 1 := ⟨k - 1, by omega⟩
    simp only [laws_toIntS.l0]
    rw [if_pos (by omega), if_pos (by omega), if_pos (by omega), w1 i (by omega), Int.toNat_natCast]
    apply ih k (i + 1) _ (by simp [ha]) (by omega) (by omega)
    intro j hjj
    rw [List.getElem?_set]
    by_cases e : i = j
    · subst e
      rw [if_pos rfl, if_pos (by omega)]
      unfold rd
      rw [Int.toNat_natCast, List.getD_eq_getElem?_getD, List.getElem?_eq_getElem (by omega : i < l.length)]
      rfl
    · rw [if_neg e]
      exact hj j (by omega)

theorem toIntS_f (l : List Int) (k : Nat) (hl : l.length ≤ 1099511627776) (hk : l.length < k) : laws_toIntS.f k l = some l := by
  unfold laws_toIntS.f
  rw [if_pos (by omega), if_pos (by omega), Int.toNat_natCast]
  exact toIntS_l0 l hl l.length k 0 _ (by simp) (by omega) hk (by intro j hj; omega)
theorem eqIntS_l0 (l : List Int) (hl : l.length ≤ 1099511627776) : ∀ (d k i : Nat), l.length = i + d → d < k → laws_eqIntS.l0 k l l (i : Int) = some true := by
  intro d
  induction d with
  | zero =>
    intro k i hi hk
    obtain ⟨k, rfl⟩ : ∃ m, k = m + 1 := ⟨k - 1, by omega⟩
    simp only [laws_eqIntS.l0]
    rw [if_neg (by omega)]
  | succ d ih =>
    intro k i hi hk
    obtain ⟨k, rfl⟩ : ∃ m, k = m + 1 := ⟨k - 1, by omega⟩
    simp only [laws_eqIntS.l0]
    rw [if_pos (by omega), if_pos (by omega), if_pos (by omega), if_pos trivial, w1 i (by omega)]
    exact ih k (i + 1) (by omega) (by omega)

theorem eqIntS_f (l : List Int) (k : Nat) (hl : l.length ≤ 1099511627776) (hk : l.length < k) : laws_eqIntS.f k l l = some true := by
  unfold laws_eqIntS.f
  rw [if_pos rfl]
  exact eqIntS_l0 l hl l.length k 0 (by omega) hk
theorem toBoolS_l0 (l : List Bool) (hl : l.length ≤ 1048576) : ∀ (d k i : Nat) (acc : List Bool), acc.length = l.length → l.length = i + d → d < k → (∀ j, j < i → acc[j]? = l[j]?) → laws_toBoolS.l0 k l acc (i : Int) = some l := by
  intro d
  induction d with
  | zero =>
    intro k i acc ha hi hk hj
    obtain ⟨k, rfl⟩ : ∃ m, k = m + 1 := ⟨k - 1, by omega⟩
    simp only [laws_toBoolS.l0]
    rw [if_neg (by omega)]
    congr 1
    apply List.ext_getElem?
    intro j
    by_cases h : j < i
    · exact hj j h
    · rw [List.getElem?_eq_none (by omega), List.getElem?_eq_none (by omega)]
  | succ d ih =>
    intro k i acc ha hi hk hj
    obtain ⟨k, rfl⟩ : ∃ m, k = m + 1 := ⟨k - 1, by omega⟩
    simp only [laws_toBoolS.l0]
    rw [if_pos (by omega), if_pos (by omega), if_pos (by omega), w1 i (by omega), Int.toNat_natCast]
    apply ih k (i + 1) _ (by simp [ha]) (by omega) (by omega)
    intro j hjj
    rw [List.getElem?_set]
    by_cases e : i = j
    · subst e
      rw [if_pos rfl, if_pos (by omega)]
      unfold rdOf
      rw [Int.toNat_natCast, List.getD_eq_getElem?_getD, List.getElem?_eq_getElem (by omega : i < l.length)]
      rfl
    · rw [if_neg e]
      exact hj j (by omega)

theorem toBoolS_f (l : List Bool) (k : Nat) (hl : l.length ≤ 1048576)(hk : l.length < k) : laws_toBoolS.f k l = some l := by
  unfold laws_toBoolS.f
  rw [if_pos (by omega), if_pos (by omega), Int.toNat_natCast]
  exact toBoolS_l0 l hl l.length k 0 _ (by simp) (by omega) hk (by intro j hj; omega)
theorem toIntSS_l0 (l : List (List Int)) (hl : l.length ≤ 1048576) (hin : ∀ x ∈ l, x.length ≤ 1048576)  : ∀ (d k i : Nat) (acc : List (List Int)), acc.length = l.length → l.length = i + d → d + 1048580 < k → (∀ j, j < i → acc[j]? = l[j]?) → laws_toIntSS.l0 k l acc (i : Int) = some l := by
  intro d
  induction d with
  | zero =>
    intro k i acc ha hi hk hj
    obtain ⟨k, rfl⟩ : ∃ m, k = m + 1 := ⟨k - 1, by omega⟩
    simp only [laws_toIntSS.l0]
    rw [if_neg (by omega)]
    congr 1
    apply List.ext_getElem?
    intro j
    by_cases h : j < i
    · exact hj j h
    · rw [List.getElem?_eq_none (by omega), List.getElem?_eq_none (by omega)]
  | succ d ih =>
    intro k i acc ha hi hk hj
    obtain ⟨k, rfl⟩ : ∃ m, k = m + 1 := ⟨k - 1, by omega⟩
    have hx : (rd_L1 l (i : Int)) = l[i] := by
      unfold rd_L1
      rw [Int.toNat_natCast, List.getD_eq_getElem?_getD, List.getElem?_eq_getElem (by omega : i < l.length)]
      rfl
    have hc := toIntS_f (rd_L1 l (i : Int)) k (by rw [hx]; have := hin l[i] (List.getElem_mem _); omega) (by rw [hx]; have := hin l[i] (List.getElem_mem _); omega)
    simp only [laws_toIntSS.l0, hc, Option.bind_some]
    rw [if_pos (by omega), if_pos (by omega), if_pos (by omega), w1 i (by omega), Int.toNat_natCast]
    apply ih k (i + 1) _ (by simp [ha]) (by omega) (by omega)
    intro j hjj
    rw [List.getElem?_set]
    by_cases e : i = j
    · subst e
      rw [if_pos rfl, if_pos (by omega)]
      unfold rd_L1
      rw [Int.toNat_natCast, List.getD_eq_getElem?_getD, List.getElem?_eq_getElem (by omega : i < l.length)]
      rfl
    · rw [if_neg e]
      exact hj j (by omega)

theorem toIntSS_f (l : List (List Int)) (k : Nat) (hl : l.length ≤ 1048576) (hin : ∀ x ∈ l, x.length ≤ 1048576) (hk : l.length + 1048580 < k) : laws_toIntSS.f k l = some l := by
  unfold laws_toIntSS.f
  rw [if_pos (by omega), if_pos (by omega), Int.toNat_natCast]
  exact toIntSS_l0 l hl hin l.length k 0 _ (by simp) (by omega) hk (by intro j hj; omega)
theorem eqBoolS_l0 (l : List Bool) (hl : l.length ≤ 1099511627776) : ∀ (d k i : Nat), l.length = i + d → d < k → laws_eqBoolS.l0 k l l (i : Int) = some true := by
  intro d
  induction d with
  | zero =>
    intro k i hi hk
    obtain ⟨k, rfl⟩ : ∃ m, k = m + 1 := ⟨k - 1, by omega⟩
    simp only [laws_eqBoolS.l0]
    rw [if_neg (by omega)]
  | succ d ih =>
    intro k i hi hk
    obtain ⟨k, rfl⟩ : ∃ m, k = m + 1 := ⟨k - 1, by omega⟩
    simp only [laws_eqBoolS.l0]
    rw [if_pos (by omega), if_pos (by omega), if_pos (by omega), if_neg (by simp), w1 i (by omega)]
    exact ih k (i + 1) (by omega) (by omega)

theorem eqBoolS_f (l : List Bool) (k : Nat) (hl : l.length ≤ 1099511627776)(hk : l.length < k) : laws_eqBoolS.f k l l = some true := by
  unfold laws_eqBoolS.f
  rw [if_pos rfl]
  exact eqBoolS_l0 l hl l.length k 0 (by omega) hk
theorem eqIntSS_l0 (l : List (List Int)) (hl : l.length ≤ 1099511627776) (hin : ∀ x ∈ l, x.length ≤ 1048576)  : ∀ (d k i : Nat), l.length = i + d → d + 1048580 < k → laws_eqIntSS.l0 k l l (i : Int) = some true := by
  intro d
  induction d with
  | zero =>
    intro k i hi hk
    obtain ⟨k, rfl⟩ : ∃ m, k = m + 1 := ⟨k - 1, by omega⟩
    simp only [laws_eqIntSS.l0]
    rw [if_neg (by omega)]
  | succ d ih =>
    intro k i hi hk
    obtain ⟨k, rfl⟩ : ∃ m, k = m + 1 := ⟨k - 1, by omega⟩
    have hx : (rd_L1 l (i : Int)) = l[i] := by
      unfold rd_L1
      rw [Int.toNat_natCast, List.getD_eq_getElem?_getD, List.getElem?_eq_getElem (by omega : i < l.length)]
      rfl
    have hc := eqIntS_f (rd_L1 l (i : Int)) k (by rw [hx]; have := hin l[i] (List.getElem_mem _); omega) (by rw [hx]; have := hin l[i] (List.getElem_mem _); omega)
    simp only [laws_eqIntSS.l0, hc, Option.bind_some, if_true]
    rw [if_pos (by omega), if_pos (by omega), if_pos (by omega), w1 i (by omega)]
    exact ih k (i + 1) (by omega) (by omega)

theorem eqIntSS_f (l : List (List Int)) (k : Nat) (hl : l.length ≤ 1099511627776) (hin : ∀ x ∈ l, x.length ≤ 1048576) (hk : l.length + 1048580 < k) : laws_eqIntSS.f k l l = some true := by
  unfold laws_eqIntSS.f
  rw [if_pos rfl]
  exact eqIntSS_l0 l hl hin l.length k 0 (by omega) hk
structure HSize (F : List (List Int)) (L : List Bool) (R : List Int) : Prop where
  f : F.length ≤ 1048576
  r : ∀ x ∈ F, x.length ≤ 1048576
  l : L.length ≤ 1048576
  s : R.length ≤ 1048576
theorem szIntS_f (l : List Int) (a : Int) (hm : l.length ≤ maxLen) (ha : 0 ≤ a ∧ a ≤ 1048576) : (laws_szIntS.f l a = some (-1) ∧ a < l.length) ∨ (laws_szIntS.f l a = some (a - l.length) ∧ (l.length : Int) ≤ a) := by
  unfold laws_szIntS.f
  unfold maxLen at hm
  have e : wrap64 (a - (l.length : Int)) = a - (l.length : Int) := by unfold wrap64; omega
  rw [e]
  by_cases h : a - (l.length : Int) < 0
  · exact .inl ⟨by rw [if_pos h], by omega⟩
  · exact .inr ⟨by rw [if_neg h], by omega⟩
theorem szBoolS_f (l : List Bool) (a : Int) (hm : l.length ≤ maxLen) (ha : 0 ≤ a ∧ a ≤ 1048576) : (laws_szBoolS.f l a = some (-1) ∧ a < l.length) ∨ (laws_szBoolS.f l a = some (a - l.length) ∧ (l.length : Int) ≤ a) := by
  unfold laws_szBoolS.f
  unfold maxLen at hm
  have e : wrap64 (a - (l.length : Int)) = a - (l.length : Int) := by unfold wrap64; omega
  rw [e]
  by_cases h : a - (l.length : Int) < 0
  · exact .inl ⟨by rw [if_pos h], by omega⟩
  · exact .inr ⟨by rw [if_neg h], by omega⟩
theorem szIntSS_l0 (l : List (List Int)) (hm : ∀ x ∈ l, x.length ≤ maxLen) (hl : l.length ≤ 1048576) : ∀ (d k i : Nat) (a : Int), l.length = i + d → d < k → 0 ≤ a ∧ a ≤ 1048576 →
    laws_szIntSS.l0 k l a (i : Int) = some (-1) ∨ ∃ b, laws_szIntSS.l0 k l a (i : Int) = some b ∧ 0 ≤ b ∧ b ≤ a ∧ ∀ x ∈ l.drop i, (x.length : Int) ≤ a := by
  intro d
  induction d with
  | zero =>
    intro k i a hi hk ha
    obtain ⟨k, rfl⟩ : ∃ m, k = m + 1 := ⟨k - 1, by omega⟩
    have hn : ¬ ((i : Int) < (l.length : Int)) := by omega
    simp only [laws_szIntSS.l0, if_neg hn]
    refine .inr ⟨a, rfl, ha.1, by omega, ?_⟩
    rw [List.drop_of_length_le (by omega)]
    simp
  | succ d ih =>
    intro k i a hi hk ha
    obtain ⟨k, rfl⟩ : ∃ m, k = m + 1 := ⟨k - 1, by omega⟩
    have hp : (i : Int) < (l.length : Int) := by omega
    have h0 : 0 ≤ (i : Int) := by omega
    have hx : (rd_L1 l (i : Int)) = l[i] := by
      unfold rd_L1
      rw [Int.toNat_natCast, List.getD_eq_getElem?_getD, List.getElem?_eq_getElem (by omega : i < l.length)]
      rfl
    simp only [laws_szIntSS.l0, if_pos hp, if_pos h0, w1 i (by omega)]
    rw [hx]
    rcases szIntS_f l[i] a (hm _ (List.getElem_mem _)) ha with ⟨e, _⟩ | ⟨e, hb⟩
    · rw [e]
      exact .inl rfl
    · rw [e]
      simp only [Option.bind_some]
      rw [if_neg (by omega)]
      rcases ih k (i + 1) (a - l[i].length) (by omega) (by omega) (by omega) with h | ⟨b, h, hb0, hba, hall⟩
      · exact .inl h
      · refine .inr ⟨b, h, hb0, by omega, ?_⟩
        rw [List.drop_eq_getElem_cons (by omega : i < l.length)]
        intro x hxm
        rcases List.mem_cons.1 hxm with rfl | hxm
        · exact hb
        · have := hall x hxm
          omega
theorem szHeap_f (F : List (List Int)) (L : List Bool) (R : List Int) (a : Int) (k : Nat) (hk : 1048600 ≤ k) (hF : F.length ≤ maxLen) (hr : ∀ x ∈ F, x.length ≤ maxLen) (hL : L.length ≤ maxLen) (hR : R.length ≤ maxLen) (ha : 0 ≤ a ∧ a ≤ 1048576) :
    laws_szHeap.f k F L R a = some (-1) ∨ ∃ b, laws_szHeap.f k F L R a = some b ∧ 0 ≤ b ∧ b ≤ a ∧ HSize F L R := by
  unfold laws_szHeap.f laws_szIntSS.f
  have e : wrap64 (a - (F.length : Int)) = a - (F.length : Int) := by unfold wrap64; unfold maxLen at hF; omega
  rw [e]
  by_cases h : a - (F.length : Int) < 0
  · rw [if_pos h]
    exact .inl rfl
  · rw [if_neg h]
    rcases szIntSS_l0 F hr (by omega) F.length k 0 (a - F.length) (by omega) (by omega) (by omega) with e1 | ⟨b, e1, hb0, hba, hall⟩
    · have e1' : laws_szIntSS.l0 k F (a - ↑F.length) 0 = some (-1) := e1
      rw [e1']
      exact .inl rfl
    · have e1' : laws_szIntSS.l0 k F (a - ↑F.length) 0 = some b := e1
      rw [e1']
      simp only [Option.bind_some]
      rw [if_neg (by omega)]
      rcases szBoolS_f L b hL (by omega) with ⟨e2, _⟩ | ⟨e2, hb2⟩
      · rw [e2]
        exact .inl rfl
      · rw [e2]
        simp only [Option.bind_some]
        rw [if_neg (by omega)]
        rcases szIntS_f R (b - L.length) hR (by omega) with ⟨e3, _⟩ | ⟨e3, hb3⟩
        · rw [e3]
          exact .inl rfl
        · rw [e3]
          simp only [Option.bind_some]
          rw [if_neg (by omega)]
          exact .inr ⟨_, rfl, by omega, by omega, ⟨by omega, fun x hx => by have := hall x (by simpa using hx); omega, by omega, by omega⟩⟩
theorem toHeap_f (F : List (List Int)) (L : List Bool) (R : List Int) (k : Nat) (hk : 2097200 ≤ k) (h : HSize F L R) : laws_toHeap.f k F L R = some (F, L, R) := by
  have := h.f
  have := h.l
  have := h.s
  unfold laws_toHeap.f
  rw [toIntSS_f F k h.f h.r (by omega)]
  simp only [Option.bind_some]
  rw [toBoolS_f L k h.l (by omega)]
  simp only [Option.bind_some]
  rw [toIntS_f R k (by omega) (by omega)]
  rfl
theorem eqHeap_f (F : List (List Int)) (L : List Bool) (R : List Int) (k : Nat) (hk : 2097200 ≤ k) (h : HSize F L R) : laws_eqHeap.f k F L R F L R = some true := by
  have := h.f
  have := h.l
  have := h.s
  unfold laws_eqHeap.f
  rw [eqIntSS_f F k (by omega) h.r (by omega)]
  simp only [Option.bind_some, if_true]
  rw [eqBoolS_f L k (by omega) (by omega)]
  simp only [Option.bind_some, if_true]
  rw [eqIntS_f R k (by omega) (by omega)]
  rfl
theorem in_yes (a lo hi : Int) (h : lo ≤ a ∧ a ≤ hi) : spec_l1In.f a lo hi = some true := by
  unfold spec_l1In.f
  rw [if_pos h.1]
  simp only [Option.some.injEq, decide_eq_true_eq]
  exact h.2
theorem in_no (a lo hi : Int) (h : ¬ (lo ≤ a ∧ a ≤ hi)) : spec_l1In.f a lo hi = some false := by
  unfold spec_l1In.f
  by_cases h0 : a ≥ lo
  · rw [if_pos h0]
    simp only [Option.some.injEq, decide_eq_false_iff_not]
    omega
  · rw [if_neg h0]
theorem wi_yes (a lo hi : Int) (h : lo ≤ a ∧ a ≤ hi) : impl_within.f a lo hi = some true := by
  unfold impl_within.f
  rw [if_pos h.1]
  simp only [Option.some.injEq, decide_eq_true_eq]
  exact h.2
theorem wi_no (a lo hi : Int) (h : ¬ (lo ≤ a ∧ a ≤ hi)) : impl_within.f a lo hi = some false := by
  unfold impl_within.f
  by_cases h0 : a ≥ lo
  · rw [if_pos h0]
    simp only [Option.some.injEq, decide_eq_false_iff_not]
    omega
  · rw [if_neg h0]
/-- A reference: none, or an object that is live. -/
def okRef (L : List Bool) (x : Int) : Bool := decide (x = -1) || (decide (0 ≤ x) && decide (x < L.length) && L.getD x.toNat false)
def okObj (L : List Bool) (k : Nat) (row : List Int) : Bool := decide (row.length ≤ 3) && (L.getD k false || decide (row.length = 0)) && row.all (okRef L)
def okObjs (F : List (List Int)) (L : List Bool) (k : Nat) : List (List Int) → Bool
  | [] => true
  | row :: rest => okObj L k row && okObjs F L (k + 1) rest
/-- A valid heap. -/
def goodHeap (F : List (List Int)) (L : List Bool) (R : List Int) : Bool := decide (F.length ≤ 12) && decide (L.length = F.length) && decide (R.length ≤ 4) && R.all (okRef L) && okObjs F L 0 F
theorem names_l0 (L : List Bool) (hL : L.length ≤ 1048576) (l : List Int) (hl : l.length ≤ 1048576) : ∀ (d k i : Nat), l.length = i + d → d < k → spec_l5Names.l0 k L l (l.length : Int) (i : Int) = some ((l.drop i).all (okRef L)) := by
  intro d
  induction d with
  | zero =>
    intro k i hi hk
    obtain ⟨k, rfl⟩ : ∃ m, k = m + 1 := ⟨k - 1, by omega⟩
    have hn : ¬ ((i : Int) < (l.length : Int)) := by omega
    simp only [spec_l5Names.l0, if_neg hn]
    rw [List.drop_of_length_le (by omega)]
    rfl
  | succ d ih =>
    intro k i hi hk
    obtain ⟨k, rfl⟩ : ∃ m, k = m + 1 := ⟨k - 1, by omega⟩
    have hp : (i : Int) < (l.length : Int) := by omega
    have h0 : 0 ≤ (i : Int) := by omega
    have hx : rd l (i : Int) = l[i] := by
      unfold rd
      rw [Int.toNat_natCast, List.getD_eq_getElem?_getD, List.getElem?_eq_getElem (by omega : i < l.length)]
      rfl
    have e : wrap64 ((L.length : Int) - 1) = (L.length : Int) - 1 := by unfold wrap64; omega
    simp only [spec_l5Names.l0, if_pos hp, if_pos h0, w1 i (by omega), hx, e]
    rw [List.drop_eq_getElem_cons (by omega : i < l.length), List.all_cons, ih k (i + 1) (by omega) (by omega)]
    generalize l[i] = x
    by_cases h1 : x = -1
    · subst h1
      rw [in_yes (-1) (-1) _ (by omega)]
      simp [okRef]
    · by_cases h2 : 0 ≤ x ∧ x < L.length
      · rw [in_yes x (-1) _ (by omega)]
        simp only [Option.bind_some, if_true]
        rw [if_pos (by omega), if_pos h2.1, if_pos h2.2]
        have er : rdOf false L x = L.getD x.toNat false := rfl
        rw [er]
        cases hg : L.getD x.toNat false with
        | true =>
          have hok : okRef L x = true := by
            unfold okRef
            rw [hg, decide_eq_true h2.1, decide_eq_true h2.2]
            simp
          rw [hok]
          simp only [if_true, Bool.true_and]
        | false =>
          have hok : okRef L x = false := by
            unfold okRef
            rw [hg]
            simp [h1]
          rw [hok]
          simp only [Bool.false_eq_true, if_false, Bool.false_and]
      · rw [in_no x (-1) _ (by omega)]
        have : okRef L x = false := by
          unfold okRef
          simp only [h1, decide_false, Bool.false_or, Bool.and_eq_false_iff, decide_eq_false_iff_not]
          omega
        simp [this]
theorem names_f (L : List Bool) (hL : L.length ≤ 1048576) (l : List Int) (hl : l.length ≤ 1048576) (k : Nat) (hk : l.length < k) : spec_l5Names.f k L l = some (l.all (okRef L)) := by
  have e := names_l0 L hL l hl l.length k 0 (by omega) hk
  exact e
theorem sGood_l0 (F : List (List Int)) (L : List Bool) (R : List Int) (hF : F.length ≤ 12) (hL : L.length = F.length) : ∀ (d k i : Nat), F.length = i + d → d + 20 < k → spec_GoodHeap.l0 k F (F.length : Int) (i : Int) F L R = some (okObjs F L i (F.drop i)) := by
  intro d
  induction d with
  | zero =>
    intro k i hi hk
    obtain ⟨k, rfl⟩ : ∃ m, k = m + 1 := ⟨k - 1, by omega⟩
    have hn : ¬ ((i : Int) < (F.length : Int)) := by omega
    simp only [spec_GoodHeap.l0, if_neg hn]
    rw [List.drop_of_length_le (by omega)]
    rfl
  | succ d ih =>
    intro k i hi hk
    obtain ⟨k, rfl⟩ : ∃ m, k = m + 1 := ⟨k - 1, by omega⟩
    have hp : (i : Int) < (F.length : Int) := by omega
    have hp2 : (i : Int) < (L.length : Int) := by omega
    have h0 : 0 ≤ (i : Int) := by omega
    have hx : rd_L1 F (i : Int) = F[i] := by
      unfold rd_L1
      rw [Int.toNat_natCast, List.getD_eq_getElem?_getD, List.getElem?_eq_getElem (by omega : i < F.length)]
      rfl
    have er : rdOf false L (i : Int) = L.getD i false := by unfold rdOf; rw [Int.toNat_natCast]
    simp only [spec_GoodHeap.l0, if_pos hp, if_pos hp2, if_pos h0, w1 i (by omega), hx, er]
    rw [List.drop_eq_getElem_cons (by omega : i < F.length)]
    simp only [okObjs]
    rw [ih k (i + 1) (by omega) (by omega)]
    generalize F[i] = row
    by_cases h3 : (row.length : Int) > 3
    · rw [if_pos h3]
      have : okObj L i row = false := by simp [okObj]; omega
      rw [this]
      rfl
    · rw [if_neg h3, names_f L (by omega) row (by omega) k (by omega)]
      have h3' : row.length ≤ 3 := by omega
      have hok : okObj L i row = ((L.getD i false || decide (row.length = 0)) && row.all (okRef L)) := by
        unfold okObj
        rw [decide_eq_true h3', Bool.true_and]
      rw [hok]
      cases L.getD i false with
      | true =>
        cases row.all (okRef L) with
        | true => simp only [if_true, Option.bind_some, Bool.true_or, Bool.true_and]
        | false => simp only [if_true, Option.bind_some, Bool.and_false, Bool.false_and, Bool.false_eq_true, if_false]
      | false =>
        by_cases hz : (row.length : Int) > 0
        · rw [if_neg (by simp), if_pos hz]
          have hz' : ¬ row.length = 0 := by omega
          rw [decide_eq_false hz']
          rfl
        · rw [if_neg (by simp), if_neg hz]
          have hz' : row.length = 0 := by omega
          rw [decide_eq_true hz']
          cases row.all (okRef L) with
          | true => simp only [if_true, Option.bind_some, Bool.or_true, Bool.true_and]
          | false => simp only [Option.bind_some, Bool.and_false, Bool.false_and, Bool.false_eq_true, if_false]
theorem sGood_f (F : List (List Int)) (L : List Bool) (R : List Int) (k : Nat) (hk : 100 ≤ k) (hm : HSize F L R) : spec_GoodHeap.f k F L R = some (goodHeap F L R) := by
  obtain ⟨k, rfl⟩ : ∃ m, k = m + 1 := ⟨k - 1, by omega⟩
  unfold spec_GoodHeap.f
  by_cases h1 : (F.length : Int) > 12
  · rw [if_pos h1]
    have : goodHeap F L R = false := by
      have h1' : ¬ F.length ≤ 12 := by omega
      simp [goodHeap, h1']
    rw [this]
    simp [spec_GoodHeap.j0]
  · have h1' : F.length ≤ 12 := by omega
    rw [if_neg h1]
    by_cases h2 : (L.length : Int) = (F.length : Int)
    · have h2' : L.length = F.length := by omega
      rw [if_pos h2]
      by_cases h3 : (R.length : Int) > 4
      · rw [if_pos h3]
        have : goodHeap F L R = false := by
          have h3' : ¬ R.length ≤ 4 := by omega
          simp [goodHeap, h3']
        rw [this]
        simp [spec_GoodHeap.j0]
      · have h3' : R.length ≤ 4 := by omega
        rw [if_neg h3, names_f L (by omega) R (by omega) (k + 1) (by omega)]
        simp only [Option.bind_some, spec_GoodHeap.j0]
        have e0 := sGood_l0 F L R h1' h2' F.length k 0 (by omega) (by omega)
        have e0' : spec_GoodHeap.l0 k F (F.length : Int) 0 F L R = some (okObjs F L 0 F) := e0
        rw [e0']
        cases ha : R.all (okRef L) with
        | true => simp [goodHeap, h1', h2', h3', ha]
        | false => simp [goodHeap, ha]
    · have h2' : ¬ L.length = F.length := by omega
      rw [if_neg h2]
      have : goodHeap F L R = false := by simp [goodHeap, h2']
      rw [this]
      simp [spec_GoodHeap.j0]
theorem isRef_f (F : List (List Int)) (L : List Bool) (R : List Int) (x : Int) (hL : L.length ≤ 1048576) : impl_Heap_isRef.f F L R x = some (okRef L x) := by
  unfold impl_Heap_isRef.f
  by_cases h1 : x = -1
  · rw [if_pos h1]
    simp [okRef, h1]
  · rw [if_neg h1]
    unfold impl_Heap_isLive.f
    have e : wrap64 ((L.length : Int) - 1) = (L.length : Int) - 1 := by unfold wrap64; omega
    rw [e]
    by_cases h2 : 0 ≤ x ∧ x < L.length
    · rw [wi_yes x 0 _ (by omega)]
      simp only [Option.bind_some, if_true]
      rw [if_pos h2.1, if_pos h2.2]
      have er : rdOf false L x = L.getD x.toNat false := rfl
      simp [okRef, h1, h2.1, h2.2, er]
    · rw [wi_no x 0 _ (by omega)]
      have : okRef L x = false := by
        unfold okRef
        simp only [h1, decide_false, Bool.false_or, Bool.and_eq_false_iff, decide_eq_false_iff_not]
        omega
      simp [this]
theorem anyO_all (p : Int → Option Bool) (q : Int → Bool) (hp : ∀ x, p x = some (q x)) : ∀ l : List Int, anyO p l = some (l.any q)
  | [] => rfl
  | x :: xs => by
    simp only [anyO, hp x, Option.bind_some, List.any_cons]
    cases q x with
    | true => simp
    | false => simp [anyO_all p q hp xs]
theorem rootsAny (F : List (List Int)) (L : List Bool) (R : List Int) (hL : L.length ≤ 1048576) (l : List Int) : slices_ContainsFunc_at_isHeapOf_1.f l F L R = some (!(l.all (okRef L))) := by
  unfold slices_ContainsFunc_at_isHeapOf_1.f
  rw [anyO_all (impl_isHeapOf_1.f F L R) (fun x => !okRef L x) (fun x => by unfold impl_isHeapOf_1.f; rw [isRef_f F L R x hL]; rfl) l]
  congr 1
  induction l with
  | nil => rfl
  | cons x xs ih => simp only [List.any_cons, List.all_cons, ih, Bool.not_and]
theorem iGood_l1 (F : List (List Int)) (L : List Bool) (R : List Int) (hL : L.length ≤ 1048576) (n i0 : Int) (row : List Int) (hr : row.length ≤ 3) : ∀ (d k i : Nat), row.length = i + d → d < k →
    ∃ k', k - d ≤ k' + 1 ∧ impl_isHeapOf.l1 k F n i0 row (row.length : Int) (i : Int) F L R = if (row.drop i).all (okRef L) = true then impl_isHeapOf.l0 k' F n (wrap64 (i0 + 1)) F L R else some false := by
  intro d
  induction d with
  | zero =>
    intro k i hi hk
    obtain ⟨k, rfl⟩ : ∃ m, k = m + 1 := ⟨k - 1, by omega⟩
    have hn : ¬ ((i : Int) < (row.length : Int)) := by omega
    refine ⟨k, by omega, ?_⟩
    simp only [impl_isHeapOf.l1, if_neg hn]
    rw [List.drop_of_length_le (by omega)]
    rfl
  | succ d ih =>
    intro k i hi hk
    obtain ⟨k, rfl⟩ : ∃ m, k = m + 1 := ⟨k - 1, by omega⟩
    have hp : (i : Int) < (row.length : Int) := by omega
    have h0 : 0 ≤ (i : Int) := by omega
    have hx : rd row (i : Int) = row[i] := by
      unfold rd
      rw [Int.toNat_natCast, List.getD_eq_getElem?_getD, List.getElem?_eq_getElem (by omega : i < row.length)]
      rfl
    obtain ⟨k', h1, h2⟩ := ih k (i + 1) (by omega) (by omega)
    refine ⟨k', by omega, ?_⟩
    simp only [impl_isHeapOf.l1, if_pos hp, if_pos h0, w1 i (by omega), hx, h2]
    rw [List.drop_eq_getElem_cons (by omega : i < row.length), List.all_cons, isRef_f F L R _ hL]
    cases okRef L row[i] with
    | true => simp
    | false => simp
theorem iGood_l0 (F : List (List Int)) (L : List Bool) (R : List Int) (hF : F.length ≤ 12) (hL : L.length = F.length) : ∀ (d k i : Nat), F.length = i + d → 8 * d + 20 < k → impl_isHeapOf.l0 k F (F.length : Int) (i : Int) F L R = some (okObjs F L i (F.drop i) && R.all (okRef L)) := by
  intro d
  induction d with
  | zero =>
    intro k i hi hk
    obtain ⟨k, rfl⟩ : ∃ m, k = m + 1 := ⟨k - 1, by omega⟩
    have hn : ¬ ((i : Int) < (F.length : Int)) := by omega
    simp only [impl_isHeapOf.l0, if_neg hn]
    rw [List.drop_of_length_le (by omega), rootsAny F L R (by omega) R]
    simp [okObjs]
  | succ d ih =>
    intro k i hi hk
    obtain ⟨k, rfl⟩ : ∃ m, k = m + 2 := ⟨k - 2, by omega⟩
    have hp : (i : Int) < (F.length : Int) := by omega
    have hp2 : (i : Int) < (L.length : Int) := by omega
    have h0 : 0 ≤ (i : Int) := by omega
    have hx : rd_L1 F (i : Int) = F[i] := by
      unfold rd_L1
      rw [Int.toNat_natCast, List.getD_eq_getElem?_getD, List.getElem?_eq_getElem (by omega : i < F.length)]
      rfl
    have er : rdOf false L (i : Int) = L.getD i false := by unfold rdOf; rw [Int.toNat_natCast]
    rw [show k + 2 = (k + 1) + 1 from rfl]
    simp only [impl_isHeapOf.l0, if_pos hp, if_pos hp2, if_pos h0, hx, er, impl_isHeapOf.j2]
    rw [List.drop_eq_getElem_cons (by omega : i < F.length)]
    simp only [okObjs]
    generalize F[i] = row
    by_cases h3 : (row.length : Int) > 3
    · rw [if_pos h3]
      have : okObj L i row = false := by simp [okObj]; omega
      rw [this]
      rfl
    · have h3' : row.length ≤ 3 := by omega
      rw [if_neg h3]
      obtain ⟨k', hk1, hk2⟩ := iGood_l1 F L R (by omega) (F.length : Int) (i : Int) row h3' row.length k 0 (by omega) (by omega)
      have hk2' : impl_isHeapOf.l1 k F (F.length : Int) (i : Int) row (row.length : Int) 0 F L R = if row.all (okRef L) = true then impl_isHeapOf.l0 k' F (F.length : Int) (wrap64 ((i : Int) + 1)) F L R else some false := by simpa using hk2
      rw [hk2', w1 i (by omega), ih k' (i + 1) (by omega) (by omega)]
      have hok : okObj L i row = ((L.getD i false || decide (row.length = 0)) && row.all (okRef L)) := by
        unfold okObj
        rw [decide_eq_true h3', Bool.true_and]
      rw [hok]
      cases L.getD i false with
      | true =>
        cases row.all (okRef L) with
        | true => simp only [if_true, Bool.false_eq_true, if_false, Bool.true_or, Bool.true_and]
        | false => simp only [if_true, Bool.and_false, Bool.false_and, Bool.false_eq_true, if_false]
      | false =>
        by_cases hz : (row.length : Int) > 0
        · have hz' : ¬ row.length = 0 := by omega
          rw [if_neg (by simp), decide_eq_true hz, decide_eq_false hz']
          rfl
        · have hz' : row.length = 0 := by omega
          rw [if_neg (by simp), decide_eq_false hz, decide_eq_true hz']
          cases row.all (okRef L) with
          | true => simp only [if_true, Bool.false_eq_true, if_false, Bool.or_true, Bool.true_and]
          | false => simp only [Bool.and_false, Bool.false_and, Bool.false_eq_true, if_false]
theorem iGood_f (F : List (List Int)) (L : List Bool) (R : List Int) (k : Nat) (hk : 200 ≤ k) (hm : HSize F L R) : impl_isHeap.f k F L R = some (goodHeap F L R) := by
  obtain ⟨k, rfl⟩ : ∃ m, k = m + 1 := ⟨k - 1, by omega⟩
  unfold impl_isHeap.f impl_isHeapOf.f
  by_cases h1 : (F.length : Int) > 12
  · rw [if_pos h1]
    have : goodHeap F L R = false := by
      have h1' : ¬ F.length ≤ 12 := by omega
      simp [goodHeap, h1']
    rw [this]
    simp [impl_isHeapOf.j0]
  · have h1' : F.length ≤ 12 := by omega
    rw [if_neg h1]
    by_cases h2 : (L.length : Int) = (F.length : Int)
    · have h2' : L.length = F.length := by omega
      rw [if_pos h2]
      by_cases h3 : (R.length : Int) > 4
      · rw [decide_eq_true h3]
        have : goodHeap F L R = false := by
          have h3' : ¬ R.length ≤ 4 := by omega
          simp [goodHeap, h3']
        rw [this]
        simp [impl_isHeapOf.j0]
      · have h3' : R.length ≤ 4 := by omega
        rw [decide_eq_false h3]
        simp only [impl_isHeapOf.j0]
        have e0 := iGood_l0 F L R h1' h2' F.length k 0 (by omega) (by omega)
        have e0' : impl_isHeapOf.l0 k F (F.length : Int) 0 F L R = some (okObjs F L 0 F && R.all (okRef L)) := e0
        rw [if_neg (by simp), e0']
        simp only [Option.bind_some]
        congr 1
        unfold goodHeap
        rw [decide_eq_true h1', decide_eq_true h2', decide_eq_true h3']
        simp [Bool.and_comm]
    · have h2' : ¬ L.length = F.length := by omega
      rw [if_neg h2]
      have : goodHeap F L R = false := by simp [goodHeap, h2']
      rw [this]
      simp [impl_isHeapOf.j0]
theorem wm (m : Int) (h : -4611686018427387904 ≤ m ∧ m ≤ 4611686018427387904) : wrap64 (m + 1) = m + 1 := by unfold wrap64; omega
theorem mark_l0 : ∀ (d k i : Nat) (acc : List Int) (m : Int), acc.length = i + d → acc.length ≤ 1048576 → d < k → (0 ≤ m ∧ m + (d : Int) ≤ 4000000000000) →
    ∃ ys, laws_markIntS.l0 k acc m (i : Int) = some (m + d, ys) ∧ ys.length = acc.length ∧ (∀ j, j < i → ys[j]? = acc[j]?) ∧ (∀ j, i ≤ j → j < acc.length → ys[j]? = some (m + ((j : Int) - (i : Int)))) := by
  intro d
  induction d with
  | zero =>
    intro k i acc m hi hl hk hm
    obtain ⟨k, rfl⟩ : ∃ m, k = m + 1 := ⟨k - 1, by omega⟩
    have hn : ¬ ((i : Int) < (acc.length : Int)) := by omega
    simp only [laws_markIntS.l0, if_neg hn]
    exact ⟨acc, by simp, rfl, fun _ _ => rfl, fun j h1 h2 => by omega⟩
  | succ d ih =>
    intro k i acc m hi hl hk hm
    obtain ⟨k, rfl⟩ : ∃ m, k = m + 1 := ⟨k - 1, by omega⟩
    have hp : (i : Int) < (acc.length : Int) := by omega
    have h0 : 0 ≤ (i : Int) := by omega
    simp only [laws_markIntS.l0, if_pos hp, if_pos h0, w1 i (by omega), Int.toNat_natCast, wm m (by omega)]
    · obtain ⟨ys, e, h1, h2, h3⟩ := ih k (i + 1) (acc.set i m) (m + 1) (by simp; omega) (by simpa using hl) (by omega) (by omega)
      refine ⟨ys, ?_, ?_, ?_, ?_⟩
      · rw [e]
        congr 2
        omega
      · simpa using h1
      · intro j hj
        rw [h2 j (by omega), List.getElem?_set, if_neg (by omega)]
      · intro j hj1 hj2
        by_cases e2 : j = i
        · subst e2
          rw [h2 j (by omega), List.getElem?_set, if_pos rfl, if_pos (by omega)]
          congr 1
          omega
        · rw [h3 j (by omega) (by simpa using hj2)]
          congr 1
          omega
theorem held_l0 (ys : List Int) (hl : ys.length ≤ 1048576) : ∀ (d k i : Nat) (m : Int), ys.length = i + d → d < k → (0 ≤ m ∧ m + (d : Int) ≤ 4000000000000) → (∀ j, i ≤ j → j < ys.length → ys[j]? = some (m + ((j : Int) - (i : Int)))) → laws_heldIntS.l0 k ys m (i : Int) = some (m + d) := by
  intro d
  induction d with
  | zero =>
    intro k i m hi hk hm hj
    obtain ⟨k, rfl⟩ : ∃ m, k = m + 1 := ⟨k - 1, by omega⟩
    have hn : ¬ ((i : Int) < (ys.length : Int)) := by omega
    simp only [laws_heldIntS.l0, if_neg hn]
    simp
  | succ d ih =>
    intro k i m hi hk hm hj
    obtain ⟨k, rfl⟩ : ∃ m, k = m + 1 := ⟨k - 1, by omega⟩
    have hp : (i : Int) < (ys.length : Int) := by omega
    have h0 : 0 ≤ (i : Int) := by omega
    have hx : rd ys (i : Int) = m := by
      unfold rd
      rw [Int.toNat_natCast, List.getD_eq_getElem?_getD, hj i (Nat.le_refl _) (by omega)]
      simp
    simp only [laws_heldIntS.l0, if_pos hp, if_pos h0, w1 i (by omega), wm m (by omega), if_pos hx]
    · rw [ih k (i + 1) (m + 1) (by omega) (by omega) (by omega) (fun j h1 h2 => by rw [hj j (by omega) h2]; congr 1; omega)]
      congr 1
      omega
theorem markheld (l : List Int) (hl : l.length ≤ 1048576) (k : Nat) (hk : l.length < k) (m : Int) (hm : 0 ≤ m ∧ m ≤ 3000000000000) : ∃ ys, ys.length = l.length ∧ laws_markIntS.f k l m = some (m + l.length, ys) ∧ ∀ k', l.length < k' → laws_heldIntS.f k' ys m = some (m + l.length) := by
  obtain ⟨ys, h1, h2, _, h4⟩ := mark_l0 l.length k 0 l m (by omega) hl hk (by omega)
  refine ⟨ys, h2, h1, fun k' hk' => ?_⟩
  have := held_l0 ys (by omega) ys.length k' 0 m (by omega) (by omega) (by omega) (fun j hj1 hj2 => h4 j hj1 (by omega))
  rw [h2] at this
  exact this
theorem markB_l0 : ∀ (d k i : Nat) (acc : List Bool) (m : Int), acc.length = i + d → acc.length ≤ 1048576 → d < k → (0 ≤ m ∧ m + (d : Int) ≤ 4000000000000) →
    ∃ ys, laws_markBoolS.l0 k acc m (i : Int) = some (m + d, ys) := by
  intro d
  induction d with
  | zero =>
    intro k i acc m hi hl hk hm
    obtain ⟨k, rfl⟩ : ∃ m, k = m + 1 := ⟨k - 1, by omega⟩
    have hn : ¬ ((i : Int) < (acc.length : Int)) := by omega
    exact ⟨acc, by simp only [laws_markBoolS.l0, if_neg hn]; simp⟩
  | succ d ih =>
    intro k i acc m hi hl hk hm
    obtain ⟨k, rfl⟩ : ∃ m, k = m + 1 := ⟨k - 1, by omega⟩
    have hp : (i : Int) < (acc.length : Int) := by omega
    have h0 : 0 ≤ (i : Int) := by omega
    simp only [laws_markBoolS.l0, if_pos hp, if_pos h0]
    rw [w1 i (by omega), wm m (by omega)]
    obtain ⟨ys, e⟩ := ih k (i + 1) (acc.set (i : Int).toNat (Int.tmod m 3 == 0)) (m + 1) (by rw [List.length_set]; omega) (by rw [List.length_set]; omega) (by omega) (by omega)
    exact ⟨ys, by rw [e]; congr 2; omega⟩
theorem markSS_l0 : ∀ (d k i : Nat) (acc : List (List Int)) (m : Int), acc.length = i + d → acc.length ≤ 1048576 → (∀ x ∈ acc, x.length ≤ 1048576) → d + 1048580 < k → (0 ≤ m ∧ m + (d : Int) * 1048576 ≤ 2000000000000) →
    ∃ r ys, laws_markIntSS.l0 k acc m (i : Int) = some (r, ys) ∧ m ≤ r ∧ r ≤ m + (d : Int) * 1048576 := by
  intro d
  induction d with
  | zero =>
    intro k i acc m hi hl hin hk hm
    obtain ⟨k, rfl⟩ : ∃ m, k = m + 1 := ⟨k - 1, by omega⟩
    have hn : ¬ ((i : Int) < (acc.length : Int)) := by omega
    exact ⟨m, acc, by simp only [laws_markIntSS.l0, if_neg hn], by omega, by omega⟩
  | succ d ih =>
    intro k i acc m hi hl hin hk hm
    obtain ⟨k, rfl⟩ : ∃ m, k = m + 1 := ⟨k - 1, by omega⟩
    have hp : (i : Int) < (acc.length : Int) := by omega
    have h0 : 0 ≤ (i : Int) := by omega
    have hx : acc.getD (i : Int).toNat [] ∈ acc := by
      rw [Int.toNat_natCast, List.getD_eq_getElem?_getD, List.getElem?_eq_getElem (by omega : i < acc.length)]
      exact List.getElem_mem _
    have hxl := hin _ hx
    obtain ⟨ys, hy, e, _⟩ := markheld (acc.getD (i : Int).toNat []) hxl k (by omega) m (by omega)
    simp only [laws_markIntSS.l0, if_pos hp, if_pos h0, e, Option.bind_some]
    rw [w1 i (by omega)]
    obtain ⟨r, zs, f, h1, h2⟩ := ih k (i + 1) (acc.set (i : Int).toNat ys) (m + (acc.getD (i : Int).toNat []).length) (by rw [List.length_set]; omega) (by rw [List.length_set]; omega) (fun x hx => by
      rcases List.mem_or_eq_of_mem_set hx with h | h
      · exact hin x h
      · rw [h]; omega) (by omega) (by omega)
    exact ⟨r, zs, f, by omega, by omega⟩
theorem markHeap_f (F : List (List Int)) (L : List Bool) (R : List Int) (k : Nat) (hk : 2097200 ≤ k) (h : HSize F L R) (m : Int) (hm : 0 ≤ m ∧ m ≤ 100) : ∃ r F' L' R', laws_markHeap.f k F L R m = some (r, F', L', R') ∧ m ≤ r ∧ r ≤ 1200000000000 := by
  have hF := h.f
  obtain ⟨r1, F', e1, a1, b1⟩ := markSS_l0 F.length k 0 F m (by omega) h.f h.r (by omega) (by omega)
  obtain ⟨L', e2⟩ := markB_l0 L.length k 0 L r1 (by omega) h.l (by have := h.l; omega) (by have := h.l; omega)
  obtain ⟨R', _, e3, _⟩ := markheld R h.s k (by have := h.s; omega) (r1 + L.length) (by have := h.l; omega)
  have hL := h.l
  have hR := h.s
  refine ⟨r1 + L.length + R.length, F', L', R', ?_, by omega, by omega⟩
  unfold laws_markHeap.f laws_markIntSS.f laws_markBoolS.f
  simp only [Int.natCast_zero] at e1 e2
  simp only [e1, e2, e3, Option.bind_some]
theorem markb2_l0 : ∀ (d k i : Nat) (acc : List Bool) (m : Int), acc.length = i + d → acc.length ≤ 1048576 → d < k → (0 ≤ m ∧ m + (d : Int) ≤ 4000000000000) →
    ∃ ys, laws_markBoolS.l0 k acc m (i : Int) = some (m + d, ys) ∧ ys.length = acc.length ∧ (∀ j, j < i → ys[j]? = acc[j]?) ∧ (∀ j, i ≤ j → j < acc.length → ys[j]? = some (Int.tmod (m + ((j : Int) - (i : Int))) 3 == 0)) := by
  intro d
  induction d with
  | zero =>
    intro k i acc m hi hl hk hm
    obtain ⟨k, rfl⟩ : ∃ m, k = m + 1 := ⟨k - 1, by omega⟩
    have hn : ¬ ((i : Int) < (acc.length : Int)) := by omega
    simp only [laws_markBoolS.l0, if_neg hn]
    exact ⟨acc, by simp, rfl, fun _ _ => rfl, fun j h1 h2 => by omega⟩
  | succ d ih =>
    intro k i acc m hi hl hk hm
    obtain ⟨k, rfl⟩ : ∃ m, k = m + 1 := ⟨k - 1, by omega⟩
    have hp : (i : Int) < (acc.length : Int) := by omega
    have h0 : 0 ≤ (i : Int) := by omega
    simp only [laws_markBoolS.l0, if_pos hp, if_pos h0, w1 i (by omega), Int.toNat_natCast, wm m (by omega)]
    · obtain ⟨ys, e, h1, h2, h3⟩ := ih k (i + 1) (acc.set i (Int.tmod m 3 == 0)) (m + 1) (by simp; omega) (by simpa using hl) (by omega) (by omega)
      refine ⟨ys, ?_, ?_, ?_, ?_⟩
      · rw [e]
        congr 2
        omega
      · simpa using h1
      · intro j hj
        rw [h2 j (by omega), List.getElem?_set, if_neg (by omega)]
      · intro j hj1 hj2
        by_cases e2 : j = i
        · subst e2
          rw [h2 j (by omega), List.getElem?_set, if_pos rfl, if_pos (by omega), Int.sub_self, Int.add_zero]
        · rw [h3 j (by omega) (by simpa using hj2)]
          have e3 : m + 1 + ((j : Int) - ((i + 1 : Nat) : Int)) = m + ((j : Int) - (i : Int)) := by omega
          rw [e3]
theorem heldb_l0 (ys : List Bool) (hl : ys.length ≤ 1048576) : ∀ (d k i : Nat) (m : Int), ys.length = i + d → d < k → (0 ≤ m ∧ m + (d : Int) ≤ 4000000000000) → (∀ j, i ≤ j → j < ys.length → ys[j]? = some (Int.tmod (m + ((j : Int) - (i : Int))) 3 == 0)) → laws_heldBoolS.l0 k ys m (i : Int) = some (m + d) := by
  intro d
  induction d with
  | zero =>
    intro k i m hi hk hm hj
    obtain ⟨k, rfl⟩ : ∃ m, k = m + 1 := ⟨k - 1, by omega⟩
    have hn : ¬ ((i : Int) < (ys.length : Int)) := by omega
    simp only [laws_heldBoolS.l0, if_neg hn]
    simp
  | succ d ih =>
    intro k i m hi hk hm hj
    obtain ⟨k, rfl⟩ : ∃ m, k = m + 1 := ⟨k - 1, by omega⟩
    have hp : (i : Int) < (ys.length : Int) := by omega
    have h0 : 0 ≤ (i : Int) := by omega
    have hx : rdOf false ys (i : Int) = (Int.tmod m 3 == 0) := by
      unfold rdOf
      rw [Int.toNat_natCast, List.getD_eq_getElem?_getD, hj i (Nat.le_refl _) (by omega), Int.sub_self, Int.add_zero]
      rfl
    simp only [laws_heldBoolS.l0, if_pos hp, if_pos h0, w1 i (by omega), wm m (by omega), hx, bne_self_eq_false, Bool.false_eq_true, if_false]
    · rw [ih k (i + 1) (m + 1) (by omega) (by omega) (by omega) (fun j h1 h2 => by
        rw [hj j (by omega) h2]
        have e3 : m + 1 + ((j : Int) - ((i + 1 : Nat) : Int)) = m + ((j : Int) - (i : Int)) := by omega
        rw [e3])]
      congr 1
      omega
theorem markheldb (l : List Bool) (hl : l.length ≤ 1048576) (k : Nat) (hk : l.length < k) (m : Int) (hm : 0 ≤ m ∧ m ≤ 3000000000000) : ∃ ys, ys.length = l.length ∧ laws_markBoolS.f k l m = some (m + l.length, ys) ∧ ∀ k', l.length < k' → laws_heldBoolS.f k' ys m = some (m + l.length) := by
  obtain ⟨ys, h1, h2, _, h4⟩ := markb2_l0 l.length k 0 l m (by omega) hl hk (by omega)
  refine ⟨ys, h2, h1, fun k' hk' => ?_⟩
  have := heldb_l0 ys (by omega) ys.length k' 0 m (by omega) (by omega) (by omega) (fun j hj1 hj2 => h4 j hj1 (by omega))
  rw [h2] at this
  exact this
theorem good_facts (F : List (List Int)) (L : List Bool) (R : List Int) (h : goodHeap F L R = true) : F.length ≤ 12 ∧ L.length = F.length ∧ R.length ≤ 4 ∧ R.all (okRef L) = true ∧ okObjs F L 0 F = true := by
  unfold goodHeap at h
  simp only [Bool.and_eq_true, decide_eq_true_eq] at h
  exact ⟨h.1.1.1.1, h.1.1.1.2, h.1.1.2, h.1.2, h.2⟩
theorem okObjs_at (F0 : List (List Int)) (L : List Bool) : ∀ (F : List (List Int)) (k j : Nat), okObjs F0 L k F = true → (h : j < F.length) → okObj L (k + j) F[j] = true
  | [], _, _, _, h => by simp at h
  | row :: rest, k, 0, h0, _ => by
    simp only [okObjs, Bool.and_eq_true] at h0
    exact h0.1
  | row :: rest, k, j + 1, h0, h => by
    simp only [okObjs, Bool.and_eq_true] at h0
    have := okObjs_at F0 L rest (k + 1) j h0.2 (by simp at h; omega)
    rw [show k + (j + 1) = k + 1 + j by omega]
    exact this
theorem good_row (F : List (List Int)) (L : List Bool) (R : List Int) (h : goodHeap F L R = true) (j : Nat) (hj : j < F.length) : F[j].length ≤ 3 ∧ ∀ x ∈ F[j], x = -1 ∨ (0 ≤ x ∧ x < L.length ∧ L.getD x.toNat false = true) := by
  have := okObjs_at F L F 0 j (good_facts F L R h).2.2.2.2 hj
  rw [Nat.zero_add] at this
  unfold okObj at this
  simp only [Bool.and_eq_true, decide_eq_true_eq, List.all_eq_true] at this
  refine ⟨this.1.1, fun x hx => ?_⟩
  have := this.2 x hx
  unfold okRef at this
  simp only [Bool.or_eq_true, Bool.and_eq_true, decide_eq_true_eq] at this
  rcases this with h | h
  · exact .inl h
  · exact .inr ⟨h.1.1, h.1.2, h.2⟩
theorem markSSheld_l0 : ∀ (d k i : Nat) (acc : List (List Int)) (m : Int), acc.length = i + d → acc.length ≤ 1048576 → (∀ x ∈ acc, x.length ≤ 1048576) → d + 1048580 < k → (0 ≤ m ∧ m + (d : Int) * 1048576 ≤ 2000000000000) →
    ∃ r ys, laws_markIntSS.l0 k acc m (i : Int) = some (r, ys) ∧ m ≤ r ∧ r ≤ m + (d : Int) * 1048576 ∧ ys.length = acc.length ∧ (∀ j, j < i → ys.getD j [] = acc.getD j []) ∧ ∀ k', d + 1048580 < k' → laws_heldIntSS.l0 k' ys m (i : Int) = some r := by
  intro d
  induction d with
  | zero =>
    intro k i acc m hi hl hin hk hm
    obtain ⟨k, rfl⟩ : ∃ m, k = m + 1 := ⟨k - 1, by omega⟩
    have hn : ¬ ((i : Int) < (acc.length : Int)) := by omega
    refine ⟨m, acc, by simp only [laws_markIntSS.l0, if_neg hn], by omega, by omega, rfl, fun _ _ => rfl, fun k' hk' => ?_⟩
    obtain ⟨k', rfl⟩ : ∃ m, k' = m + 1 := ⟨k' - 1, by omega⟩
    simp only [laws_heldIntSS.l0, if_neg hn]
  | succ d ih =>
    intro k i acc m hi hl hin hk hm
    obtain ⟨k, rfl⟩ : ∃ m, k = m + 1 := ⟨k - 1, by omega⟩
    have hp : (i : Int) < (acc.length : Int) := by omega
    have h0 : 0 ≤ (i : Int) := by omega
    have hx : acc.getD (i : Int).toNat [] ∈ acc := by
      rw [Int.toNat_natCast, List.getD_eq_getElem?_getD, List.getElem?_eq_getElem (by omega : i < acc.length)]
      exact List.getElem_mem _
    have hxl := hin _ hx
    obtain ⟨ys, hy, e, hh⟩ := markheld (acc.getD (i : Int).toNat []) hxl k (by omega) m (by omega)
    simp only [laws_markIntSS.l0, if_pos hp, if_pos h0, e, Option.bind_some]
    rw [w1 i (by omega)]
    obtain ⟨r, zs, f, h1, h2, h3, h4, h5⟩ := ih k (i + 1) (acc.set (i : Int).toNat ys) (m + (acc.getD (i : Int).toNat []).length) (by rw [List.length_set]; omega) (by rw [List.length_set]; omega) (fun x hx => by
      rcases List.mem_or_eq_of_mem_set hx with h | h
      · exact hin x h
      · rw [h]; omega) (by omega) (by omega)
    rw [List.length_set] at h3
    refine ⟨r, zs, f, by omega, by omega, h3, fun j hj => ?_, fun k' hk' => ?_⟩
    · rw [h4 j (by omega), Int.toNat_natCast, List.getD_eq_getElem?_getD, List.getElem?_set, if_neg (by omega), ← List.getD_eq_getElem?_getD]
    · obtain ⟨k', rfl⟩ : ∃ m, k' = m + 1 := ⟨k' - 1, by omega⟩
      have hpz : (i : Int) < (zs.length : Int) := by omega
      have hz : rd_L1 zs (i : Int) = ys := by
        unfold rd_L1
        rw [Int.toNat_natCast, h4 i (by omega), Int.toNat_natCast, List.getD_eq_getElem?_getD, List.getElem?_set, if_pos rfl, if_pos (by omega)]
        rfl
      have hne : ¬ (m + ((acc.getD (i : Int).toNat []).length : Int) < 0) := by omega
      simp only [laws_heldIntSS.l0, if_pos hpz, if_pos h0, hz, hh k' (by omega), Option.bind_some, if_neg hne]
      rw [w1 i (by omega)]
      exact h5 k' (by omega)
theorem markHeld_f (F : List (List Int)) (L : List Bool) (R : List Int) (k : Nat) (hk : 2097200 ≤ k) (h : HSize F L R) : ∃ r F' L' R', laws_markHeap.f k F L R 1 = some (r, F', L', R') ∧ 1 ≤ r ∧ r ≤ 1200000000000 ∧ laws_heldHeap.f k F' L' R' 1 = some r := by
  have hF := h.f
  have hL := h.l
  have hR := h.s
  obtain ⟨r1, F', e1, a1, b1, _, _, hh⟩ := markSSheld_l0 F.length k 0 F 1 (by omega) h.f h.r (by omega) (by omega)
  obtain ⟨L', _, e2, g2⟩ := markheldb L h.l k (by omega) r1 (by omega)
  obtain ⟨R', _, e3, g3⟩ := markheld R h.s k (by omega) (r1 + L.length) (by omega)
  have hh' := hh k (by omega)
  refine ⟨r1 + L.length + R.length, F', L', R', ?_, by omega, by omega, ?_⟩
  · unfold laws_markHeap.f laws_markIntSS.f
    simp only [Int.natCast_zero] at e1
    simp only [e1, e2, e3, Option.bind_some]
  · unfold laws_heldHeap.f laws_heldIntSS.f
    simp only [Int.natCast_zero] at hh'
    have n1 : ¬ (r1 < 0) := by omega
    have n2 : ¬ (r1 + (L.length : Int) < 0) := by omega
    have n3 : ¬ (r1 + (L.length : Int) + (R.length : Int) < 0) := by omega
    simp only [hh', g2 k (by omega), g3 k (by omega), Option.bind_some, if_neg n1, if_neg n2, if_neg n3]
theorem sOwn_l0 (F : List (List Int)) (L : List Bool) (R : List Int) (hF : F.length ≤ 1048576) (hr : ∀ x ∈ F, x.length ≤ 1048576) : ∀ (d k i : Nat) (acc : List (List Int)), F.length = i + d → d < k → acc.length ≤ i → spec_l5Own.l0 k F (F.length : Int) (i : Int) acc L R = some (acc ++ F.drop i, L, R) := by
  intro d
  induction d with
  | zero =>
    intro k i acc hi hk ha
    obtain ⟨k, rfl⟩ : ∃ m, k = m + 1 := ⟨k - 1, by omega⟩
    have hn : ¬ ((i : Int) < (F.length : Int)) := by omega
    simp only [spec_l5Own.l0, if_neg hn]
    rw [List.drop_of_length_le (by omega), List.append_nil]
  | succ d ih =>
    intro k i acc hi hk ha
    obtain ⟨k, rfl⟩ : ∃ m, k = m + 1 := ⟨k - 1, by omega⟩
    have hp : (i : Int) < (F.length : Int) := by omega
    have h0 : 0 ≤ (i : Int) := by omega
    have hx : rd_L1 F (i : Int) = F[i] := by
      unfold rd_L1
      rw [Int.toNat_natCast, List.getD_eq_getElem?_getD, List.getElem?_eq_getElem (by omega : i < F.length)]
      rfl
    have hrl := hr F[i] (List.getElem_mem _)
    have hlim : ([] : List Int).length + F[i].length < 17592186044416 := by simp; omega
    have hlim2 : acc.length < 5864062014805 := by omega
    simp only [spec_l5Own.l0, if_pos hp, if_pos h0, hx, Option.bind_some, if_pos hlim, if_pos hlim2, List.nil_append, w1 i (by omega)]
    rw [ih k (i + 1) _ (by omega) (by omega) (by rw [List.length_append, List.length_singleton]; omega), List.append_assoc]
    rw [List.drop_eq_getElem_cons (by omega : i < F.length)]
    rfl
theorem sOwn_f (F : List (List Int)) (L : List Bool) (R : List Int) (k : Nat) (hk : 1048600 ≤ k) (h : HSize F L R) : spec_l5Own.f k F L R = some (F, L, R) := by
  unfold spec_l5Own.f
  have hl := h.l
  have hs := h.s
  have hf := h.f
  have l1 : ([] : List Bool).length + L.length < 140737488355328 := by simp; omega
  have l2 : ([] : List Int).length + R.length < 17592186044416 := by simp; omega
  have e := sOwn_l0 F L R h.f h.r F.length k 0 [] (by omega) (by omega) (by simp)
  simp only [Option.bind_some, if_pos l1, if_pos l2, List.nil_append]
  simpa using e
theorem iOwn_l0 (F : List (List Int)) (L : List Bool) (R : List Int) (hF : F.length ≤ 1048576) (hr : ∀ x ∈ F, x.length ≤ 1048576) : ∀ (d k i : Nat) (acc : List (List Int)), F.length = i + d → d < k → acc.length ≤ i → impl_cloneHeap.l0 k F (F.length : Int) (i : Int) acc L R = some (acc ++ F.drop i, L, R) := by
  intro d
  induction d with
  | zero =>
    intro k i acc hi hk ha
    obtain ⟨k, rfl⟩ : ∃ m, k = m + 1 := ⟨k - 1, by omega⟩
    have hn : ¬ ((i : Int) < (F.length : Int)) := by omega
    simp only [impl_cloneHeap.l0, if_neg hn]
    rw [List.drop_of_length_le (by omega), List.append_nil]
  | succ d ih =>
    intro k i acc hi hk ha
    obtain ⟨k, rfl⟩ : ∃ m, k = m + 1 := ⟨k - 1, by omega⟩
    have hp : (i : Int) < (F.length : Int) := by omega
    have h0 : 0 ≤ (i : Int) := by omega
    have hx : rd_L1 F (i : Int) = F[i] := by
      unfold rd_L1
      rw [Int.toNat_natCast, List.getD_eq_getElem?_getD, List.getElem?_eq_getElem (by omega : i < F.length)]
      rfl
    have hrl := hr F[i] (List.getElem_mem _)
    have hlim : F[i].length < 17592186044416 := by omega
    have ec : slices_Clone_int_int.f F[i] = some F[i] := by
      unfold slices_Clone_int_int.f
      simp [hlim]
    have hlim2 : acc.length < 5864062014805 := by omega
    simp only [impl_cloneHeap.l0, if_pos hp, if_pos h0, hx, ec, Option.bind_some, if_pos hlim2, w1 i (by omega)]
    rw [ih k (i + 1) _ (by omega) (by omega) (by rw [List.length_append, List.length_singleton]; omega), List.append_assoc]
    rw [List.drop_eq_getElem_cons (by omega : i < F.length)]
    rfl
theorem iOwn_f (F : List (List Int)) (L : List Bool) (R : List Int) (k : Nat) (hk : 1048600 ≤ k) (h : HSize F L R) : impl_cloneHeap.f k F L R = some (F, L, R) := by
  unfold impl_cloneHeap.f
  have hl := h.l
  have hs := h.s
  have hf := h.f
  have l1 : L.length < 140737488355328 := by omega
  have l2 : R.length < 17592186044416 := by omega
  have ec : slices_Clone_int_int.f R = some R := by
    unfold slices_Clone_int_int.f
    simp [l2]
  have eb : slices_Clone_bool_bool.f L = some L := by
    unfold slices_Clone_bool_bool.f
    simp [l1]
  have e := iOwn_l0 F L R h.f h.r F.length k 0 [] (by omega) (by omega) (by simp)
  rw [eb, ec]
  simp only [Option.bind_some]
  simpa using e
def liveRef (L : List Bool) (x : Int) : Bool := decide (0 ≤ x) && decide (x < L.length) && L.getD x.toNat false
theorem isLive_f (F : List (List Int)) (L : List Bool) (R : List Int) (x : Int) (hL : L.length ≤ 1048576) : impl_Heap_isLive.f F L R x = some (liveRef L x) := by
  unfold impl_Heap_isLive.f
  have e : wrap64 ((L.length : Int) - 1) = (L.length : Int) - 1 := by unfold wrap64; omega
  rw [e]
  by_cases h2 : 0 ≤ x ∧ x < L.length
  · rw [wi_yes x 0 _ (by omega)]
    simp only [Option.bind_some, if_true]
    rw [if_pos h2.1, if_pos h2.2]
    have er : rdOf false L x = L.getD x.toNat false := rfl
    simp [liveRef, h2.1, h2.2, er]
  · rw [wi_no x 0 _ (by omega)]
    have : liveRef L x = false := by
      unfold liveRef
      simp only [Bool.and_eq_false_iff, decide_eq_false_iff_not]
      omega
    simp [this]
theorem thing_f (F : List (List Int)) (L : List Bool) (R : List Int) (x : Int) (hL : L.length ≤ 1048576) (hF : L.length = F.length) : spec_l5Thing.f F L R x = some (liveRef L x) := by
  unfold spec_l5Thing.f
  have e : wrap64 ((F.length : Int) - 1) = (F.length : Int) - 1 := by unfold wrap64; omega
  rw [e]
  by_cases h2 : 0 ≤ x ∧ x < L.length
  · rw [in_yes x 0 _ (by omega)]
    simp only [Option.bind_some, if_true]
    rw [if_pos h2.1, if_pos h2.2]
    have er : rdOf false L x = L.getD x.toNat false := rfl
    simp [liveRef, h2.1, h2.2, er]
  · rw [in_no x 0 _ (by omega)]
    have : liveRef L x = false := by
      unfold liveRef
      simp only [Bool.and_eq_false_iff, decide_eq_false_iff_not]
      omega
    simp [this]
theorem okRef_live (L : List Bool) (x : Int) : okRef L x = (decide (x = -1) || liveRef L x) := by
  unfold okRef liveRef
  rfl

theorem both (F : List (List Int)) (L : List Bool) (R : List Int) (a b c : Int) (k : Nat) (hk : 2000000 ≤ k) (hm : HSize F L R) : ∃ F2 L2 R2 t, HSize F2 L2 R2 ∧ spec_SetField.f k F L R a b c = some (F2, L2, R2, t) ∧ impl_SetField.f k F L R a b c = some (F2, L2, R2, t) := by
  have hnil : HSize [] [] [] := ⟨by simp, by simp, by simp, by simp⟩
  unfold spec_SetField.f impl_SetField.f impl_Heap_hasField.f
  rw [sGood_f F L R k (by omega) hm, iGood_f F L R k (by omega) hm]
  simp only [Option.bind_some]
  cases hg : goodHeap F L R with
  | false => exact ⟨[], [], [], false, hnil, rfl, rfl⟩
  | true =>
    obtain ⟨h1, h2, h3, _⟩ := good_facts F L R hg
    have hl := hm.l
    simp only [if_true, thing_f F L R a hl h2, isLive_f F L R a hl, Option.bind_some]
    cases hla : liveRef L a with
    | false => exact ⟨[], [], [], false, hnil, by simp, by simp⟩
    | true =>
      have ha : 0 ≤ a ∧ a < (F.length : Int) := by
        unfold liveRef at hla
        simp only [Bool.and_eq_true, decide_eq_true_eq] at hla
        omega
      have hmem : rd_L1 F a ∈ F := by
        unfold rd_L1
        rw [List.getD_eq_getElem?_getD, List.getElem?_eq_getElem (by omega : a.toNat < F.length)]
        exact List.getElem_mem _
      have hrl := hm.r _ hmem
      have ew : wrap64 (((rd_L1 F a).length : Int) - 1) = ((rd_L1 F a).length : Int) - 1 := by unfold wrap64; omega
      simp only [if_true, if_pos ha.1, if_pos ha.2, ew]
      by_cases hb : 0 ≤ b ∧ b ≤ ((rd_L1 F a).length : Int) - 1
      · rw [in_yes b 0 _ hb, wi_yes b 0 _ hb]
        have hb1 : b < ((rd_L1 F a).length : Int) := by omega
        have hs2 : HSize (F.set a.toNat ((rd_L1 F a).set b.toNat c)) L R := ⟨by rw [List.length_set]; exact hm.f, fun x hx => by
          rcases List.mem_or_eq_of_mem_set hx with h | h
          · exact hm.r x h
          · rw [h, List.length_set]
            exact hrl, hm.l, hm.s⟩
        simp only [Option.bind_some, if_true, sOwn_f F L R k (by omega) hm, iOwn_f F L R k (by omega) hm, if_pos ha.1, if_pos ha.2, if_pos hb.1, if_pos hb1, isRef_f F L R c hl, thing_f F L R c hl h2, okRef_live]
        by_cases hc : c = -1
        · exact ⟨_, L, R, true, hs2, by simp [hc], by simp [hc]⟩
        · cases hv : liveRef L c with
          | true => exact ⟨_, L, R, true, hs2, by simp [hc], by simp⟩
          | false => exact ⟨[], [], [], false, hnil, by simp [hc], by simp [hc]⟩
      · rw [in_no b 0 _ hb, wi_no b 0 _ hb]
        exact ⟨[], [], [], false, hnil, by simp, by simp⟩
theorem FnExactSetField : laws_FnExactSetField.Pure := by
  intro F L R a b c hF hL hR _ _ _
  obtain ⟨k, hk⟩ : ∃ k : Nat, 3000000 ≤ k := ⟨3000000, Nat.le_refl _⟩
  refine ⟨k, ?_⟩
  unfold laws_FnExactSetField.f
  rcases szHeap_f F L R 1048576 k (by omega) hF.1 (fun x hx => (hF.2 x hx).1) hL.1 hR.1 (by omega) with e | ⟨bud, e, hb0, _, hs⟩
  · rw [e]
    rfl
  · rw [e]
    simp only [Option.bind_some]
    rw [if_neg (by omega)]
    obtain ⟨F2, L2, R2, t, hs2, e1, e2⟩ := both F L R a b c k (by omega) hs
    obtain ⟨q, F', L', R', m1, q1, q2⟩ := markHeap_f F L R k (by omega) hs 1 (by omega)
    obtain ⟨q', F3, L3, R3, m2, q3, _, m3⟩ := markHeld_f F2 L2 R2 k (by omega) hs2
    have n1 : ¬ (q < 0) := by omega
    have n2 : ¬ (q' < 0) := by omega
    simp only [toHeap_f F L R k (by omega) hs, Option.bind_some, e1, e2, eqHeap_f F L R k (by omega) hs, eqHeap_f F2 L2 R2 k (by omega) hs2, m1, m2, m3, if_neg n1, if_neg n2, bne_self_eq_false, if_true]
    simp

end Go.Proofs.Ytkfldlniknifpaa.Pure
