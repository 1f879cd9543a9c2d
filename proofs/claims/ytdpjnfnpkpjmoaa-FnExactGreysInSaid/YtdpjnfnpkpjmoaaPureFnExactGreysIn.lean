/- GreysIn of the program returns what the reference returns, for every list of colours, shares no memory with it and leaves it as it was. No condition. -/
import Derived.Test.YtdpjnfnpkpjmoaaQFnExactGreysInx2
namespace Go.Proofs.Ytdpjnfnpkpjmoaa.Pure
set_option linter.unusedVariables false
set_option linter.unusedSimpArgs false
open Go.RowKit Go.Proofs.Ytdpjnfnpkpjmoaa.QFnExactGreysIn Go.Proofs.YtdpjnfnpkpjmoaaW.PrintWords Go.Proofs.YtdpjnfnpkpjmoaaW.PrintLast Go.Proofs.YtdpjnfnpkpjmoaaW.PrintMore

theorem w1 (i : Nat) (h : i < 9223372036854775000) : wrap64 ((i : Int) + 1) = ((i + 1 : Nat) : Int) := by unfold wrap64; omega
theorem toIntS_l0 (l : List Int) (hl : l.length ≤ 1099511627776) : ∀ (d k i : Nat) (acc : List Int), acc.length = l.length → l.length = i + d → d < k → (∀ j, j < i → acc[j]? = l[j]?) → laws_toIntS.l0 k l acc (i : Int) = some l := by
  intro d
  induction d with
  | zero =>
    intro k i acc ha hi hk hj
    obtain ⟨k, rfl⟩ : ∃ m, k = m + 1 := ⟨k - 1, by omega⟩
    simp only [laws_toIntS.l0]
    rw [if_neg (by omega)]
    congr 1
    apply List.ext_getElem?
    intro j
    by_cases h : j < i
    · exact hj j h
    · rw [List.getElem?_eq_none (by omega), List.getElem?_eq_none (by omega)]
  | succ d ih =>
    intro k i acc ha hi hk hj
    obtain ⟨k, rfl⟩ : ∃ m, k = m + 1 := ⟨k - 1, by omega⟩
    simp only [laws_toIntS.l0]
    rw [if_pos (by omega), if_pos (by omega), if_pos (by omega), w1 i (by omega), Int.toNat_natCast]
    apply ih k (i + 1) _ (by simp [ha]) (by omega) (by omega)
    intro j hjj
    rw [List.getElem?_set]
    by_cases e : i = j
    · subst e
      rw [if_pos rfl, if_pos (by omega)]
      unfold rd
      rw [Int.toNat_natCast, List.getD_eq_getElem?_getD, List.getElem?_eq_getElem (by omega : i < l.length)]
      rfl
    · rw [if_neg e]
      exact hj j (by omega)

theorem toIntS_f (l : List Int) (k : Nat) (hl : l.length ≤ 1099511627776) (hk : l.length < k) : laws_toIntS.f k l = some l := by
  unfold laws_toIntS.f
  rw [if_pos (by omega), if_pos (by omega), Int.toNat_natCast]
  exact toIntS_l0 l hl l.length k 0 _ (by simp) (by omega) hk (by intro j hj; omega)
theorem eqIntS_l0 (l : List Int) (hl : l.length ≤ 1099511627776) : ∀ (d k i : Nat), l.length = i + d → d < k → laws_eqIntS.l0 k l l (i : Int) = some true := by
  intro d
  induction d with
  | zero =>
    intro k i hi hk
    obtain ⟨k, rfl⟩ : ∃ m, k = m + 1 := ⟨k - 1, by omega⟩
    simp only [laws_eqIntS.l0]
    rw [if_neg (by omega)]
  | succ d ih =>
    intro k i hi hk
    obtain ⟨k, rfl⟩ : ∃ m, k = m + 1 := ⟨k - 1, by omega⟩
    simp only [laws_eqIntS.l0]
    rw [if_pos (by omega), if_pos (by omega), if_pos (by omega), if_pos trivial, w1 i (by omega)]
    exact ih k (i + 1) (by omega) (by omega)

theorem eqIntS_f (l : List Int) (k : Nat) (hl : l.length ≤ 1099511627776) (hk : l.length < k) : laws_eqIntS.f k l l = some true := by
  unfold laws_eqIntS.f
  rw [if_pos rfl]
  exact eqIntS_l0 l hl l.length k 0 (by omega) hk
theorem wm (m : Int) (h : -4611686018427387904 ≤ m ∧ m ≤ 4611686018427387904) : wrap64 (m + 1) = m + 1 := by unfold wrap64; omega
theorem mark_l0 : ∀ (d k i : Nat) (acc : List Int) (m : Int), acc.length = i + d → acc.length ≤ 1048576 → d < k → (0 ≤ m ∧ m + (d : Int) ≤ 4000000000000) →
    ∃ ys, laws_markIntS.l0 k acc m (i : Int) = some (m + d, ys) ∧ ys.length = acc.length ∧ (∀ j, j < i → ys[j]? = acc[j]?) ∧ (∀ j, i ≤ j → j < acc.length → ys[j]? = some (m + ((j : Int) - (i : Int)))) := by
  intro d
  induction d with
  | zero =>
    intro k i acc m hi hl hk hm
    obtain ⟨k, rfl⟩ : ∃ m, k = m + 1 := ⟨k - 1, by omega⟩
    have hn : ¬ ((i : Int) < (acc.length : Int)) := by omega
    simp only [laws_markIntS.l0, if_neg hn]
    exact ⟨acc, by simp, rfl, fun _ _ => rfl, fun j h1 h2 => by omega⟩
  | succ d ih =>
    intro k i acc m hi hl hk hm
    obtain ⟨k, rfl⟩ : ∃ m, k = m + 1 := ⟨k - 1, by omega⟩
    have hp : (i : Int) < (acc.length : Int) := by omega
    have h0 : 0 ≤ (i : Int) := by omega
    simp only [laws_markIntS.l0, if_pos hp, if_pos h0, w1 i (by omega), Int.toNat_natCast, wm m (by omega)]
    · obtain ⟨ys, e, h1, h2, h3⟩ := ih k (i + 1) (acc.set i m) (m + 1) (by simp; omega) (by simpa using hl) (by omega) (by omega)
      refine ⟨ys, ?_, ?_, ?_, ?_⟩
      · rw [e]
        congr 2
        omega
      · simpa using h1
      · intro j hj
        rw [h2 j (by omega), List.getElem?_set, if_neg (by omega)]
      · intro j hj1 hj2
        by_cases e2 : j = i
        · subst e2
          rw [h2 j (by omega), List.getElem?_set, if_pos rfl, if_pos (by omega)]
          congr 1
          omega
        · rw [h3 j (by omega) (by simpa using hj2)]
          congr 1
          omega
theorem held_l0 (ys : List Int) (hl : ys.length ≤ 1048576) : ∀ (d k i : Nat) (m : Int), ys.length = i + d → d < k → (0 ≤ m ∧ m + (d : Int) ≤ 4000000000000) → (∀ j, i ≤ j → j < ys.length → ys[j]? = some (m + ((j : Int) - (i : Int)))) → laws_heldIntS.l0 k ys m (i : Int) = some (m + d) := by
  intro d
  induction d with
  | zero =>
    intro k i m hi hk hm hj
    obtain ⟨k, rfl⟩ : ∃ m, k = m + 1 := ⟨k - 1, by omega⟩
    have hn : ¬ ((i : Int) < (ys.length : Int)) := by omega
    simp only [laws_heldIntS.l0, if_neg hn]
    simp
  | succ d ih =>
    intro k i m hi hk hm hj
    obtain ⟨k, rfl⟩ : ∃ m, k = m + 1 := ⟨k - 1, by omega⟩
    have hp : (i : Int) < (ys.length : Int) := by omega
    have h0 : 0 ≤ (i : Int) := by omega
    have hx : rd ys (i : Int) = m := by
      unfold rd
      rw [Int.toNat_natCast, List.getD_eq_getElem?_getD, hj i (Nat.le_refl _) (by omega)]
      simp
    simp only [laws_heldIntS.l0, if_pos hp, if_pos h0, w1 i (by omega), wm m (by omega), if_pos hx]
    · rw [ih k (i + 1) (m + 1) (by omega) (by omega) (by omega) (fun j h1 h2 => by rw [hj j (by omega) h2]; congr 1; omega)]
      congr 1
      omega
theorem markheld (l : List Int) (hl : l.length ≤ 1048576) (k : Nat) (hk : l.length < k) (m : Int) (hm : 0 ≤ m ∧ m ≤ 1000000000000) : ∃ ys, ys.length = l.length ∧ laws_markIntS.f k l m = some (m + l.length, ys) ∧ ∀ k', l.length < k' → laws_heldIntS.f k' ys m = some (m + l.length) := by
  obtain ⟨ys, h1, h2, _, h4⟩ := mark_l0 l.length k 0 l m (by omega) hl hk (by omega)
  refine ⟨ys, h2, h1, fun k' hk' => ?_⟩
  have := held_l0 ys (by omega) ys.length k' 0 m (by omega) (by omega) (by omega) (fun j hj1 hj2 => h4 j hj1 (by omega))
  rw [h2] at this
  exact this
theorem in_yes (a lo hi : Int) (h : lo ≤ a ∧ a ≤ hi) : spec_l1In.f a lo hi = some true := by
  unfold spec_l1In.f
  rw [if_pos h.1]
  simp only [Option.some.injEq, decide_eq_true_eq]
  exact h.2
theorem in_no (a lo hi : Int) (h : ¬ (lo ≤ a ∧ a ≤ hi)) : spec_l1In.f a lo hi = some false := by
  unfold spec_l1In.f
  by_cases h0 : a ≥ lo
  · rw [if_pos h0]
    simp only [Option.some.injEq, decide_eq_false_iff_not]
    omega
  · rw [if_neg h0]
theorem wi_yes (a lo hi : Int) (h : lo ≤ a ∧ a ≤ hi) : impl_within.f a lo hi = some true := by
  unfold impl_within.f
  rw [if_pos h.1]
  simp only [Option.some.injEq, decide_eq_true_eq]
  exact h.2
theorem wi_no (a lo hi : Int) (h : ¬ (lo ≤ a ∧ a ≤ hi)) : impl_within.f a lo hi = some false := by
  unfold impl_within.f
  by_cases h0 : a ≥ lo
  · rw [if_pos h0]
    simp only [Option.some.injEq, decide_eq_false_iff_not]
    omega
  · rw [if_neg h0]
theorem anyO_all (p : Int → Option Bool) (q : Int → Bool) (hp : ∀ x, p x = some (q x)) : ∀ l : List Int, anyO p l = some (l.any q)
  | [] => rfl
  | x :: xs => by
    simp only [anyO, hp x, Option.bind_some, List.any_cons]
    cases q x with
    | true => simp
    | false => simp [anyO_all p q hp xs]
def goodCol (l : List Int) : Bool := decide (l.length ≤ 12) && l.all (fun x => decide (0 ≤ x) && decide (x ≤ 2))
theorem all_l0 (lo up : Int) (l : List Int) (hl : l.length ≤ 1048576) : ∀ (d k i : Nat), l.length = i + d → d < k → spec_l1All.l0 k lo up l (l.length : Int) (i : Int) = some ((l.drop i).all fun x => decide (lo ≤ x) && decide (x ≤ up)) := by
  intro d
  induction d with
  | zero =>
    intro k i hi hk
    obtain ⟨k, rfl⟩ : ∃ m, k = m + 1 := ⟨k - 1, by omega⟩
    have hn : ¬ ((i : Int) < (l.length : Int)) := by omega
    simp only [spec_l1All.l0, if_neg hn]
    rw [List.drop_of_length_le (by omega)]
    rfl
  | succ d ih =>
    intro k i hi hk
    obtain ⟨k, rfl⟩ : ∃ m, k = m + 1 := ⟨k - 1, by omega⟩
    have hp : (i : Int) < (l.length : Int) := by omega
    have h0 : 0 ≤ (i : Int) := by omega
    have hx : rd l (i : Int) = l[i] := by
      unfold rd
      rw [Int.toNat_natCast, List.getD_eq_getElem?_getD, List.getElem?_eq_getElem (by omega : i < l.length)]
      rfl
    simp only [spec_l1All.l0, if_pos hp, if_pos h0, w1 i (by omega), hx]
    rw [List.drop_eq_getElem_cons (by omega : i < l.length), List.all_cons, ih k (i + 1) (by omega) (by omega)]
    generalize l[i] = x
    by_cases h1 : lo ≤ x ∧ x ≤ up
    · rw [in_yes x lo up h1, decide_eq_true h1.1, decide_eq_true h1.2]
      simp only [Option.bind_some, if_true, Bool.true_and]
    · rw [in_no x lo up h1]
      have : (decide (lo ≤ x) && decide (x ≤ up)) = false := by
        simp only [Bool.and_eq_false_iff, decide_eq_false_iff_not]
        omega
      rw [this]
      simp only [Option.bind_some, Bool.false_eq_true, if_false, Bool.false_and]
theorem sCol_f (l : List Int) (k : Nat) (hk : 20 ≤ k) : spec_l6Colours.f k l = some (goodCol l) := by
  unfold spec_l6Colours.f goodCol
  by_cases h : (l.length : Int) ≤ 12
  · have h' : l.length ≤ 12 := by omega
    rw [if_pos h, decide_eq_true h']
    have e := all_l0 0 2 l (by omega) l.length k 0 (by omega) (by omega)
    unfold spec_l1All.f
    have e' : spec_l1All.l0 k 0 2 l (l.length : Int) 0 = some (l.all fun x => decide (0 ≤ x) && decide (x ≤ 2)) := by simpa using e
    rw [e']
    rfl
  · have h' : ¬ l.length ≤ 12 := by omega
    rw [if_neg h, decide_eq_false h']
    rfl
theorem iCol_f (l : List Int) : impl_areColours.f l = some (goodCol l) := by
  unfold impl_areColours.f goodCol
  by_cases h : (l.length : Int) ≤ 12
  · have h' : l.length ≤ 12 := by omega
    rw [if_pos h, decide_eq_true h']
    unfold slices_ContainsFunc_at_impl_areColours_1.f
    rw [anyO_all impl_areColours_1.f (fun x => !(decide (0 ≤ x) && decide (x ≤ 2))) (fun x => by
      unfold impl_areColours_1.f
      by_cases h1 : 0 ≤ x ∧ x ≤ 2
      · rw [wi_yes x 0 2 h1]
        simp [h1.1, h1.2]
      · rw [wi_no x 0 2 h1]
        have : (decide (0 ≤ x) && decide (x ≤ 2)) = false := by
          simp only [Bool.and_eq_false_iff, decide_eq_false_iff_not]
          omega
        simp [this]) l]
    simp only [Option.bind_some, Bool.true_and]
    congr 1
    induction l with
    | nil => rfl
    | cons x xs ih => simp only [List.any_cons, List.all_cons, Bool.not_or, Bool.not_not, ih (by simp at h ⊢; omega) (by simp at h' ⊢; omega)]
  · have h' : ¬ l.length ≤ 12 := by omega
    rw [if_neg h, decide_eq_false h']
    rfl
theorem of_both (l : List Int) (hl : l.length ≤ 12) (c : Int) : ∀ (d k i : Nat) (acc : List Int), l.length = i + d → d < k → acc.length ≤ i →
    ∃ r, r.length ≤ l.length ∧ spec_l6Of.l0 k c acc l (l.length : Int) (i : Int) = some r ∧ impl_ofColour.l0 k c acc l (l.length : Int) (i : Int) = some r := by
  intro d
  induction d with
  | zero =>
    intro k i acc hi hk ha
    obtain ⟨k, rfl⟩ : ∃ m, k = m + 1 := ⟨k - 1, by omega⟩
    have hn : ¬ ((i : Int) < (l.length : Int)) := by omega
    simp only [spec_l6Of.l0, impl_ofColour.l0, if_neg hn]
    exact ⟨acc, by omega, rfl, rfl⟩
  | succ d ih =>
    intro k i acc hi hk ha
    obtain ⟨k, rfl⟩ : ∃ m, k = m + 1 := ⟨k - 1, by omega⟩
    have hp : (i : Int) < (l.length : Int) := by omega
    have h0 : 0 ≤ (i : Int) := by omega
    have hlim : acc.length < 17592186044416 := by omega
    simp only [spec_l6Of.l0, impl_ofColour.l0, if_pos hp, if_pos h0, w1 i (by omega), if_pos hlim]
    by_cases hc : rd l (i : Int) = c
    · simp only [if_pos hc]
      exact ih k (i + 1) (acc ++ [(i : Int)]) (by omega) (by omega) (by simp; omega)
    · simp only [if_neg hc]
      exact ih k (i + 1) acc (by omega) (by omega) (by omega)

theorem both (l : List Int) (k : Nat) (hk : 100 ≤ k) : ∃ r b, r.length ≤ 12 ∧ spec_GreysIn.f k l = some (r, b) ∧ impl_GreysIn.f k l = some (r, b) := by
  unfold spec_GreysIn.f impl_GreysIn.f
  rw [sCol_f l k (by omega), iCol_f l]
  simp only [Option.bind_some]
  cases hg : goodCol l with
  | false => exact ⟨[], false, by simp, rfl, rfl⟩
  | true =>
    have hl : l.length ≤ 12 := by
      unfold goodCol at hg
      simp only [Bool.and_eq_true, decide_eq_true_eq] at hg
      exact hg.1
    obtain ⟨r, hr, h1, h2⟩ := of_both l hl 1 l.length k 0 [] (by omega) (by omega) (by simp)
    refine ⟨r, true, by omega, ?_, ?_⟩
    · unfold spec_l6Of.f
      have h1' : spec_l6Of.l0 k 1 [] l (l.length : Int) 0 = some r := h1
      simp [h1']
    · unfold impl_ofColour.f
      have h2' : impl_ofColour.l0 k 1 [] l (l.length : Int) 0 = some r := h2
      simp [h2']

theorem FnExactGreysIn : laws_FnExactGreysIn.Pure := by
  intro l hl
  obtain ⟨k, hk⟩ : ∃ k : Nat, 3000000 ≤ k := ⟨3000000, Nat.le_refl _⟩
  refine ⟨k, ?_⟩
  unfold laws_FnExactGreysIn.f
  by_cases h : (l.length : Int) > 1048576
  · rw [if_pos h]
  · rw [if_neg h]
    obtain ⟨r, b, hr, h1, h2⟩ := both l k (by omega)
    obtain ⟨ys, _, m1, _⟩ := markheld l (by omega) k (by omega) 1 (by omega)
    obtain ⟨zs, _, m2, m3⟩ := markheld r (by omega) k (by omega) 1 (by omega)
    have m4 := m3 k (by omega)
    have n1 : ¬ (1 + (l.length : Int) < 0) := by omega
    have n2 : ¬ (1 + (r.length : Int) < 0) := by omega
    simp only [toIntS_f l k (by omega) (by omega), Option.bind_some, h1, h2, eqIntS_f r k (by omega) (by omega), eqIntS_f l k (by omega) (by omega), m1, m2, m4, if_neg n1, if_neg n2, bne_self_eq_false, if_true]
    simp

end Go.Proofs.Ytdpjnfnpkpjmoaa.Pure
