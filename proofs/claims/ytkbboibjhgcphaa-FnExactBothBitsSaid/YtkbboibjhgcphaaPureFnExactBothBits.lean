/- BothBits of the program returns what the reference returns, for every two bitmaps, shares no memory with them and leaves them as they were. No condition. -/
import Derived.Test.YtkbboibjhgcphaaQFnExactBothBitsx5
namespace Go.Proofs.Ytkbboibjhgcphaa.Pure
set_option linter.unusedVariables false
set_option linter.unusedSimpArgs false
open Go.RowKit Go.Proofs.Ytkbboibjhgcphaa.QFnExactBothBits Go.Proofs.YtkbboibjhgcphaaW.PrintWords Go.Proofs.YtkbboibjhgcphaaW.PrintLast Go.Proofs.YtkbboibjhgcphaaW.PrintMore

theorem w1 (i : Nat) (h : i < 9223372036854775000) : wrap64 ((i : Int) + 1) = ((i + 1 : Nat) : Int) := by unfold wrap64; omega
theorem toIntS_l0 (l : List Int) (hl : l.length ≤ 1099511627776) : ∀ (d k i : Nat) (acc : List Int), acc.length = l.length → l.length = i + d → d < k → (∀ j, j < i → acc[j]? = l[j]?) → laws_toIntS.l0 k l acc (i : Int) = some l := by
  intro d
  induction d with
  | zero =>
    intro k i acc ha hi hk hj
    obtain ⟨k, rfl⟩ : ∃ m, k = m + 1 := ⟨k - 1, by omega⟩
    simp only [laws_toIntS.l0]
    rw [if_neg (by omega)]
    congr 1
    apply List.ext_getElem?
    intro j
    by_cases h : j < i
    · exact hj j h
    · rw [List.getElem?_eq_none (by omega), List.getElem?_eq_none (by omega)]
  | succ d ih =>
    intro k i acc ha hi hk hj
    obtain ⟨k, rfl⟩ : ∃ m, k = m + 1 := ⟨k - 1, by omega⟩
    simp only [laws_toIntS.l0]
    rw [if_pos (by omega), if_pos (by omega), if_pos (by omega), w1 i (by omega), Int.toNat_natCast]
    apply ih k (i + 1) _ (by simp [ha]) (by omega) (by omega)
    intro j hjj
    rw [List.getElem?_set]
    by_cases e : i = j
    · subst e
      rw [if_pos rfl, if_pos (by omega)]
      unfold rd
      rw [Int.toNat_natCast, List.getD_eq_getElem?_getD, List.getElem?_eq_getElem (by omega : i < l.length)]
      rfl
    · rw [if_neg e]
      exact hj j (by omega)

theorem toIntS_f (l : List Int) (k : Nat) (hl : l.length ≤ 1099511627776) (hk : l.length < k) : laws_toIntS.f k l = some l := by
  unfold laws_toIntS.f
  rw [if_pos (by omega), if_pos (by omega), Int.toNat_natCast]
  exact toIntS_l0 l hl l.length k 0 _ (by simp) (by omega) hk (by intro j hj; omega)
theorem eqIntS_l0 (l : List Int) (hl : l.length ≤ 1099511627776) : ∀ (d k i : Nat), l.length = i + d → d < k → laws_eqIntS.l0 k l l (i : Int) = some true := by
  intro d
  induction d with
  | zero =>
    intro k i hi hk
    obtain ⟨k, rfl⟩ : ∃ m, k = m + 1 := ⟨k - 1, by omega⟩
    simp only [laws_eqIntS.l0]
    rw [if_neg (by omega)]
  | succ d ih =>
    intro k i hi hk
    obtain ⟨k, rfl⟩ : ∃ m, k = m + 1 := ⟨k - 1, by omega⟩
    simp only [laws_eqIntS.l0]
    rw [if_pos (by omega), if_pos (by omega), if_pos (by omega), if_pos trivial, w1 i (by omega)]
    exact ih k (i + 1) (by omega) (by omega)

theorem eqIntS_f (l : List Int) (k : Nat) (hl : l.length ≤ 1099511627776) (hk : l.length < k) : laws_eqIntS.f k l l = some true := by
  unfold laws_eqIntS.f
  rw [if_pos rfl]
  exact eqIntS_l0 l hl l.length k 0 (by omega) hk
theorem wm (m : Int) (h : -4611686018427387904 ≤ m ∧ m ≤ 4611686018427387904) : wrap64 (m + 1) = m + 1 := by unfold wrap64; omega
theorem mark_l0 : ∀ (d k i : Nat) (acc : List Int) (m : Int), acc.length = i + d → acc.length ≤ 1048576 → d < k → (0 ≤ m ∧ m + (d : Int) ≤ 4000000000000) →
    ∃ ys, laws_markIntS.l0 k acc m (i : Int) = some (m + d, ys) ∧ ys.length = acc.length ∧ (∀ j, j < i → ys[j]? = acc[j]?) ∧ (∀ j, i ≤ j → j < acc.length → ys[j]? = some (m + ((j : Int) - (i : Int)))) := by
  intro d
  induction d with
  | zero =>
    intro k i acc m hi hl hk hm
    obtain ⟨k, rfl⟩ : ∃ m, k = m + 1 := ⟨k - 1, by omega⟩
    have hn : ¬ ((i : Int) < (acc.length : Int)) := by omega
    simp only [laws_markIntS.l0, if_neg hn]
    exact ⟨acc, by simp, rfl, fun _ _ => rfl, fun j h1 h2 => by omega⟩
  | succ d ih =>
    intro k i acc m hi hl hk hm
    obtain ⟨k, rfl⟩ : ∃ m, k = m + 1 := ⟨k - 1, by omega⟩
    have hp : (i : Int) < (acc.length : Int) := by omega
    have h0 : 0 ≤ (i : Int) := by omega
    simp only [laws_markIntS.l0, if_pos hp, if_pos h0, w1 i (by omega), Int.toNat_natCast, wm m (by omega)]
    · obtain ⟨ys, e, h1, h2, h3⟩ := ih k (i + 1) (acc.set i m) (m + 1) (by simp; omega) (by simpa using hl) (by omega) (by omega)
      refine ⟨ys, ?_, ?_, ?_, ?_⟩
      · rw [e]
        congr 2
        omega
      · simpa using h1
      · intro j hj
        rw [h2 j (by omega), List.getElem?_set, if_neg (by omega)]
      · intro j hj1 hj2
        by_cases e2 : j = i
        · subst e2
          rw [h2 j (by omega), List.getElem?_set, if_pos rfl, if_pos (by omega)]
          congr 1
          omega
        · rw [h3 j (by omega) (by simpa using hj2)]
          congr 1
          omega
theorem held_l0 (ys : List Int) (hl : ys.length ≤ 1048576) : ∀ (d k i : Nat) (m : Int), ys.length = i + d → d < k → (0 ≤ m ∧ m + (d : Int) ≤ 4000000000000) → (∀ j, i ≤ j → j < ys.length → ys[j]? = some (m + ((j : Int) - (i : Int)))) → laws_heldIntS.l0 k ys m (i : Int) = some (m + d) := by
  intro d
  induction d with
  | zero =>
    intro k i m hi hk hm hj
    obtain ⟨k, rfl⟩ : ∃ m, k = m + 1 := ⟨k - 1, by omega⟩
    have hn : ¬ ((i : Int) < (ys.length : Int)) := by omega
    simp only [laws_heldIntS.l0, if_neg hn]
    simp
  | succ d ih =>
    intro k i m hi hk hm hj
    obtain ⟨k, rfl⟩ : ∃ m, k = m + 1 := ⟨k - 1, by omega⟩
    have hp : (i : Int) < (ys.length : Int) := by omega
    have h0 : 0 ≤ (i : Int) := by omega
    have hx : rd ys (i : Int) = m := by
      unfold rd
      rw [Int.toNat_natCast, List.getD_eq_getElem?_getD, hj i (Nat.le_refl _) (by omega)]
      simp
    simp only [laws_heldIntS.l0, if_pos hp, if_pos h0, w1 i (by omega), wm m (by omega), if_pos hx]
    · rw [ih k (i + 1) (m + 1) (by omega) (by omega) (by omega) (fun j h1 h2 => by rw [hj j (by omega) h2]; congr 1; omega)]
      congr 1
      omega
theorem markheld (l : List Int) (hl : l.length ≤ 1048576) (k : Nat) (hk : l.length < k) (m : Int) (hm : 0 ≤ m ∧ m ≤ 1000000000000) : ∃ ys, ys.length = l.length ∧ laws_markIntS.f k l m = some (m + l.length, ys) ∧ ∀ k', l.length < k' → laws_heldIntS.f k' ys m = some (m + l.length) := by
  obtain ⟨ys, h1, h2, _, h4⟩ := mark_l0 l.length k 0 l m (by omega) hl hk (by omega)
  refine ⟨ys, h2, h1, fun k' hk' => ?_⟩
  have := held_l0 ys (by omega) ys.length k' 0 m (by omega) (by omega) (by omega) (fun j hj1 hj2 => h4 j hj1 (by omega))
  rw [h2] at this
  exact this
theorem in_yes (a lo hi : Int) (h : lo ≤ a ∧ a ≤ hi) : spec_l1In.f a lo hi = some true := by
  unfold spec_l1In.f
  rw [if_pos h.1]
  simp only [Option.some.injEq, decide_eq_true_eq]
  exact h.2
theorem in_no (a lo hi : Int) (h : ¬ (lo ≤ a ∧ a ≤ hi)) : spec_l1In.f a lo hi = some false := by
  unfold spec_l1In.f
  by_cases h0 : a ≥ lo
  · rw [if_pos h0]
    simp only [Option.some.injEq, decide_eq_false_iff_not]
    omega
  · rw [if_neg h0]
theorem wi_yes (a lo hi : Int) (h : lo ≤ a ∧ a ≤ hi) : impl_within.f a lo hi = some true := by
  unfold impl_within.f
  rw [if_pos h.1]
  simp only [Option.some.injEq, decide_eq_true_eq]
  exact h.2
theorem wi_no (a lo hi : Int) (h : ¬ (lo ≤ a ∧ a ≤ hi)) : impl_within.f a lo hi = some false := by
  unfold impl_within.f
  by_cases h0 : a ≥ lo
  · rw [if_pos h0]
    simp only [Option.some.injEq, decide_eq_false_iff_not]
    omega
  · rw [if_neg h0]
theorem all_l0 (lo up : Int) (l : List Int) (hl : l.length ≤ 1048576) : ∀ (d k i : Nat), l.length = i + d → d < k → spec_l1All.l0 k lo up l (l.length : Int) (i : Int) = some ((l.drop i).all fun x => decide (lo ≤ x) && decide (x ≤ up)) := by
  intro d
  induction d with
  | zero =>
    intro k i hi hk
    obtain ⟨k, rfl⟩ : ∃ m, k = m + 1 := ⟨k - 1, by omega⟩
    have hn : ¬ ((i : Int) < (l.length : Int)) := by omega
    simp only [spec_l1All.l0, if_neg hn]
    rw [List.drop_of_length_le (by omega)]
    rfl
  | succ d ih =>
    intro k i hi hk
    obtain ⟨k, rfl⟩ : ∃ m, k = m + 1 := ⟨k - 1, by omega⟩
    have hp : (i : Int) < (l.length : Int) := by omega
    have h0 : 0 ≤ (i : Int) := by omega
    have hx : rd l (i : Int) = l[i] := by
      unfold rd
      rw [Int.toNat_natCast, List.getD_eq_getElem?_getD, List.getElem?_eq_getElem (by omega : i < l.length)]
      rfl
    simp only [spec_l1All.l0, if_pos hp, if_pos h0, w1 i (by omega), hx]
    rw [List.drop_eq_getElem_cons (by omega : i < l.length), List.all_cons, ih k (i + 1) (by omega) (by omega)]
    generalize l[i] = x
    by_cases h1 : lo ≤ x ∧ x ≤ up
    · rw [in_yes x lo up h1, decide_eq_true h1.1, decide_eq_true h1.2]
      simp only [Option.bind_some, if_true, Bool.true_and]
    · rw [in_no x lo up h1]
      have : (decide (lo ≤ x) && decide (x ≤ up)) = false := by
        simp only [Bool.and_eq_false_iff, decide_eq_false_iff_not]
        omega
      rw [this]
      simp only [Option.bind_some, Bool.false_eq_true, if_false, Bool.false_and]
theorem tdiv16 (a : Int) (h : 0 ≤ a) : Int.tdiv a 16 = a / 16 := Int.tdiv_eq_ediv_of_nonneg h
theorem tmod16 (a : Int) (h : 0 ≤ a) : Int.tmod a 16 = a % 16 := Int.tmod_eq_emod_of_nonneg h
theorem u64_id (a : Int) (h : 0 ≤ a ∧ a < 1000) : IntKind.u64.wrap a = a := by
  simp [IntKind.wrap, IntKind.bits, IntKind.signed]
  omega
theorem w64_id (a : Int) (h : -4611686018427387904 ≤ a ∧ a ≤ 4611686018427387904) : wrap64 a = a := by unfold wrap64; omega
/-- How many words. -/
def nw (n : Int) : Int := (n + 15) / 16
theorem words_f (n : Int) (h : 0 ≤ n ∧ n ≤ 96) : wrap64 (Int.tdiv (wrap64 ((wrap64 (n + 16)) - 1)) 16) = nw n := by
  rw [w64_id (n + 16) (by omega), w64_id (n + 16 - 1) (by omega), tdiv16 _ (by omega), w64_id _ (by omega)]
  unfold nw
  omega
theorem and_one (x : Int) (h : 0 ≤ x ∧ x < 65536) : Go.bits .and .i64 x 1 = x % 2 := by
  have := bits_mask .i64 16 (by decide) (fun n h0 h1 => by rw [IntKind.wrap_i64]; omega) 1 (by decide) x h.1 (by omega)
  simpa using this
theorem shr_f (x : Int) (j : Nat) (hj : j ≤ 16) : shr .i64 x (j : Int) = x / 2 ^ j := by
  unfold shr
  rw [Int.toNat_natCast, Nat.min_eq_left (by simp [IntKind.bits]; omega)]
theorem div_range (x : Int) (j : Nat) (h : 0 ≤ x ∧ x < 65536) : 0 ≤ x / 2 ^ j ∧ x / 2 ^ j < 65536 := by
  have hp : (0 : Int) < 2 ^ j := Int.pow_pos (by decide)
  have h1 : 0 ≤ x / 2 ^ j := Int.ediv_nonneg h.1 (by omega)
  have h2 : x / 2 ^ j ≤ x := Int.ediv_le_self _ h.1
  omega
/-- Bit j of a word of less than 2^(j+1). -/
theorem bit_step (x : Int) (j : Nat) (h : 0 ≤ x ∧ x < 65536) : (x < 2 ^ (j + 1) → (x / 2 ^ j) % 2 = 0 → x < 2 ^ j) ∧ (x < 2 ^ j → (x / 2 ^ j) % 2 = 0) := by
  have hp : (0 : Int) < 2 ^ j := Int.pow_pos (by decide)
  have hs : (2 : Int) ^ (j + 1) = 2 * 2 ^ j := by rw [Int.pow_succ]; omega
  constructor
  · intro h1 h2
    rw [hs] at h1
    have h3 : x / 2 ^ j < 2 := (Int.ediv_lt_iff_lt_mul hp).2 h1
    have h4 : 0 ≤ x / 2 ^ j := Int.ediv_nonneg h.1 (by omega)
    have h5 : x / 2 ^ j = 0 := by omega
    have h6 := Int.emod_add_mul_ediv x (2 ^ j)
    rw [h5] at h6
    have h7 := Int.emod_lt_of_pos x hp
    omega
  · intro h1
    rw [Int.ediv_eq_zero_of_lt h.1 h1]
    rfl
/-- A valid bitmap. -/
def goodBits (n : Int) (ws : List Int) : Bool := decide (0 ≤ n ∧ n ≤ 96) && decide ((ws.length : Int) = nw n) && ws.all (fun x => decide (0 ≤ x) && decide (x ≤ 65535)) && (decide (ws.length = 0) || decide (ws.getD (ws.length - 1) 0 < 2 ^ (n - 16 * ((ws.length : Int) - 1)).toNat))
theorem is_f (n : Int) (ws : List Int) (i j : Nat) (hi : i < ws.length) (hl : ws.length ≤ 6) (hj : j < 16) (hw : 0 ≤ ws.getD i 0 ∧ ws.getD i 0 < 65536) : spec_l2Is.f n ws ((16 * i + j : Nat) : Int) = some ((ws.getD i 0 / 2 ^ j) % 2 == 1) := by
  unfold spec_l2Is.f
  rw [tdiv16 _ (by omega), tmod16 _ (by omega)]
  have e1 : ((16 * i + j : Nat) : Int) / 16 = (i : Int) := by omega
  have e2 : ((16 * i + j : Nat) : Int) % 16 = (j : Int) := by omega
  rw [e1, e2, w64_id _ (by omega), u64_id _ (by omega)]
  rw [if_pos (by omega), if_pos (by omega), if_pos (by omega)]
  have e3 : rd ws (i : Int) = ws.getD i 0 := by unfold rd; rw [Int.toNat_natCast]
  rw [e3, shr_f _ j (by omega), and_one _ (div_range _ j hw)]
theorem sBits_l0 (n : Int) (ws : List Int) (h1 : 0 < ws.length) (hl : ws.length ≤ 6) (hw : 0 ≤ ws.getD (ws.length - 1) 0 ∧ ws.getD (ws.length - 1) 0 < 65536) : ∀ (d k j : Nat), j + d = 16 → d < k →
    spec_GoodBits.l0 k ((16 * (ws.length - 1) + j : Nat) : Int) n ws = some (decide (ws.getD (ws.length - 1) 0 < 2 ^ j)) := by
  intro d
  induction d with
  | zero =>
    intro k j hj hk
    obtain ⟨k, rfl⟩ : ∃ m, k = m + 1 := ⟨k - 1, by omega⟩
    simp only [spec_GoodBits.l0]
    rw [w64_id _ (by omega), if_neg (by omega)]
    obtain rfl : j = 16 := by omega
    rw [decide_eq_true (by omega)]
  | succ d ih =>
    intro k j hj hk
    obtain ⟨k, rfl⟩ : ∃ m, k = m + 1 := ⟨k - 1, by omega⟩
    simp only [spec_GoodBits.l0]
    rw [w64_id _ (by omega), if_pos (by omega), is_f n ws (ws.length - 1) j (by omega) hl (by omega) hw, w1 _ (by omega)]
    have hs := bit_step (ws.getD (ws.length - 1) 0) j hw
    have e := ih k (j + 1) (by omega) (by omega)
    rw [show 16 * (ws.length - 1) + (j + 1) = 16 * (ws.length - 1) + j + 1 by omega] at e
    simp only [Option.bind_some]
    by_cases hb : ws.getD (ws.length - 1) 0 / 2 ^ j % 2 = 1
    · rw [if_pos (by simpa using hb), decide_eq_false]
      intro hc
      have := hs.2 hc
      omega
    · rw [if_neg (by simpa using hb), e]
      have hb0 : ws.getD (ws.length - 1) 0 / 2 ^ j % 2 = 0 := by omega
      congr 1
      by_cases hc : ws.getD (ws.length - 1) 0 < 2 ^ (j + 1)
      · rw [decide_eq_true hc, decide_eq_true (hs.1 hc hb0)]
      · rw [decide_eq_false hc, decide_eq_false]
        intro h2
        apply hc
        have hsu : (2 : Int) ^ (j + 1) = 2 * 2 ^ j := by rw [Int.pow_succ]; omega
        omega
theorem sBits_f (n : Int) (ws : List Int) (k : Nat) (hk : 100 ≤ k) : spec_GoodBits.f k n ws = some (goodBits n ws) := by
  obtain ⟨k, rfl⟩ : ∃ m, k = m + 1 := ⟨k - 1, by omega⟩
  unfold spec_GoodBits.f goodBits
  by_cases h1 : 0 ≤ n ∧ n ≤ 96
  · rw [in_yes n 0 96 h1, decide_eq_true h1]
    unfold spec_l2Words.f
    rw [words_f n h1]
    simp only [Option.bind_some, if_true, Bool.true_and]
    by_cases h2 : (ws.length : Int) = nw n
    · rw [if_pos h2, decide_eq_true h2]
      have hl : ws.length ≤ 6 := by unfold nw at h2; omega
      have e := all_l0 0 65535 ws (by omega) ws.length (k + 1) 0 (by omega) (by omega)
      have e' : spec_l1All.f (k + 1) ws 0 65535 = some (ws.all fun x => decide (0 ≤ x) && decide (x ≤ 65535)) := e
      rw [e']
      simp only [Option.bind_some, Bool.true_and]
      cases ha : ws.all (fun x => decide (0 ≤ x) && decide (x ≤ 65535)) with
      | false => simp only [spec_GoodBits.j0, Bool.not_false, if_true, Bool.false_and]
      | true =>
        simp only [spec_GoodBits.j0, Bool.not_true, Bool.false_eq_true, if_false, Bool.true_and]
        by_cases hz : ws.length = 0
        · have hn : n = 0 := by unfold nw at h2; omega
          subst hn
          obtain ⟨k, rfl⟩ : ∃ m, k = m + 1 := ⟨k - 1, by omega⟩
          simp only [spec_GoodBits.l0]
          rw [w64_id _ (by omega), if_neg (by omega), decide_eq_true hz]
          rfl
        · have hw : 0 ≤ ws.getD (ws.length - 1) 0 ∧ ws.getD (ws.length - 1) 0 < 65536 := by
            rw [List.all_eq_true] at ha
            rw [List.getD_eq_getElem?_getD, List.getElem?_eq_getElem (by omega : ws.length - 1 < ws.length)]
            have := ha _ (List.getElem_mem (by omega : ws.length - 1 < ws.length))
            simp only [Bool.and_eq_true, decide_eq_true_eq] at this
            simp only [Option.getD_some]
            omega
          have hr : n = ((16 * (ws.length - 1) + (n - 16 * ((ws.length : Int) - 1)).toNat : Nat) : Int) := by unfold nw at h2; omega
          have e2 := sBits_l0 n ws (by omega) hl hw (16 - (n - 16 * ((ws.length : Int) - 1)).toNat) k (n - 16 * ((ws.length : Int) - 1)).toNat (by unfold nw at h2; omega) (by omega)
          rw [← hr] at e2
          rw [e2, decide_eq_false hz, Bool.false_or]
    · rw [if_neg h2, decide_eq_false h2]
      simp only [spec_GoodBits.j0, if_true, Bool.false_and]
  · rw [in_no n 0 96 h1, decide_eq_false h1]
    simp only [Option.bind_some, spec_GoodBits.j0, Bool.false_eq_true, if_false, if_true, Bool.false_and]
theorem pow16f : ∀ j : Fin 17, (2 : Int) ^ j.val ≤ 65536 := by decide
theorem pow16 (j : Nat) (h : j ≤ 16) : (2 : Int) ^ j ≤ 65536 := pow16f ⟨j, by omega⟩
theorem shl_f (j : Nat) (hj : j ≤ 16) : shl .i64 1 (j : Int) = 2 ^ j := by
  unfold shl
  rw [Int.toNat_natCast, Nat.min_eq_left (by simp [IntKind.bits]; omega), Int.one_mul, IntKind.wrap_i64]
  have := pow16 j hj
  have : (0 : Int) < 2 ^ j := Int.pow_pos (by decide)
  omega
theorem iBits_l0 (n : Int) (ws : List Int) (hn : 0 ≤ n ∧ n ≤ 96) (h2 : (ws.length : Int) = nw n) : ∀ (d k i : Nat), ws.length = i + d → d < k →
    impl_isBits.l0 k ws (ws.length : Int) (i : Int) n ws = some ((ws.drop i).all (fun x => decide (0 ≤ x) && decide (x ≤ 65535)) && (decide (d = 0) || decide (ws.getD (ws.length - 1) 0 < 2 ^ (n - 16 * ((ws.length : Int) - 1)).toNat))) := by
  have hl : ws.length ≤ 6 := by unfold nw at h2; omega
  intro d
  induction d with
  | zero =>
    intro k i hi hk
    obtain ⟨k, rfl⟩ : ∃ m, k = m + 1 := ⟨k - 1, by omega⟩
    have hn : ¬ ((i : Int) < (ws.length : Int)) := by omega
    simp only [impl_isBits.l0, if_neg hn]
    rw [List.drop_of_length_le (by omega)]
    rfl
  | succ d ih =>
    intro k i hi hk
    obtain ⟨k, rfl⟩ : ∃ m, k = m + 1 := ⟨k - 1, by omega⟩
    have hp : (i : Int) < (ws.length : Int) := by omega
    have h0 : 0 ≤ (i : Int) := by omega
    have hx : rd ws (i : Int) = ws[i] := by
      unfold rd
      rw [Int.toNat_natCast, List.getD_eq_getElem?_getD, List.getElem?_eq_getElem (by omega : i < ws.length)]
      rfl
    simp only [impl_isBits.l0, if_pos hp, if_pos h0, w1 i (by omega), hx]
    rw [w64_id ((i : Int) * 16) (by omega), w64_id (n - (i : Int) * 16) (by omega)]
    rw [List.drop_eq_getElem_cons (by omega : i < ws.length), List.all_cons, ih k (i + 1) (by omega) (by omega)]
    by_cases hlast : d = 0
    · -- the last word
      have hr : mn 16 (n - (i : Int) * 16) = ((n - 16 * ((ws.length : Int) - 1)).toNat : Int) := by unfold mn; unfold nw at h2; split <;> omega
      have hr16 : (n - 16 * ((ws.length : Int) - 1)).toNat ≤ 16 := by unfold nw at h2; omega
      rw [hr, if_pos (by omega), shl_f _ hr16]
      have hge : ws.getD (ws.length - 1) 0 = ws[i] := by
        have : ws.length - 1 = i := by omega
        rw [this, List.getD_eq_getElem?_getD, List.getElem?_eq_getElem (by omega : i < ws.length)]
        rfl
      rw [hge]
      generalize (n - 16 * ((ws.length : Int) - 1)).toNat = r at hr16
      generalize ws[i] = x
      have hpow := pow16 r hr16
      have hpos : (0 : Int) < 2 ^ r := Int.pow_pos (by decide)
      rw [w64_id _ (by omega)]
      rw [List.drop_of_length_le (by omega)]
      subst hlast
      by_cases hin : 0 ≤ x ∧ x ≤ 2 ^ r - 1
      · rw [wi_yes x 0 _ hin, decide_eq_true hin.1, decide_eq_true (by omega : x ≤ 65535), decide_eq_true (by omega : x < 2 ^ r)]
        rfl
      · rw [wi_no x 0 _ hin]
        simp only [Option.bind_some, Bool.false_eq_true, if_false]
        congr 1
        by_cases hx0 : 0 ≤ x
        · rw [decide_eq_false (by omega : ¬ x < 2 ^ r)]
          simp
        · rw [decide_eq_false hx0]
          simp
    · have hr : mn 16 (n - (i : Int) * 16) = ((16 : Nat) : Int) := by unfold mn; unfold nw at h2; split <;> omega
      rw [hr, if_pos (by omega), shl_f 16 (by omega)]
      generalize ws[i] = x
      rw [w64_id _ (by omega)]
      have h16 : ((2 : Int) ^ 16 - 1) = 65535 := by decide
      rw [h16, decide_eq_false hlast, decide_eq_false (by omega : ¬ d + 1 = 0)]
      by_cases hin : 0 ≤ x ∧ x ≤ 65535
      · rw [wi_yes x 0 _ hin, decide_eq_true hin.1, decide_eq_true hin.2]
        simp only [Option.bind_some, if_true, Bool.true_and]
      · rw [wi_no x 0 _ hin]
        have hf : (decide (0 ≤ x) && decide (x ≤ 65535)) = false := by
          simp only [Bool.and_eq_false_iff, decide_eq_false_iff_not]
          omega
        rw [hf]
        simp only [Option.bind_some, Bool.false_eq_true, if_false, Bool.false_and]
theorem iBits_f (n : Int) (ws : List Int) (k : Nat) (hk : 100 ≤ k) (hb : ws.length ≤ 1048576) : impl_isBits.f k n ws = some (goodBits n ws) := by
  obtain ⟨k, rfl⟩ : ∃ m, k = m + 1 := ⟨k - 1, by omega⟩
  unfold impl_isBits.f goodBits
  by_cases h1 : 0 ≤ n ∧ n ≤ 96
  · rw [wi_yes n 0 96 h1, decide_eq_true h1, words_f n h1]
    simp only [Option.bind_some, if_true, Bool.true_and, impl_isBits.j0]
    by_cases h2 : (ws.length : Int) = nw n
    · rw [if_neg (by simp [h2])]
      have hl : ws.length ≤ 6 := by unfold nw at h2; omega
      have e := iBits_l0 n ws h1 h2 ws.length k 0 (by omega) (by omega)
      have e' : impl_isBits.l0 k ws (ws.length : Int) 0 n ws = some (ws.all (fun x => decide (0 ≤ x) && decide (x ≤ 65535)) && (decide (ws.length = 0) || decide (ws.getD (ws.length - 1) 0 < 2 ^ (n - 16 * ((ws.length : Int) - 1)).toNat))) := e
      rw [e', decide_eq_true h2, Bool.true_and]
    · rw [if_pos (by simpa using h2), decide_eq_false h2]
      simp only [Bool.false_and]
  · rw [wi_no n 0 96 h1, decide_eq_false h1]
    simp only [Option.bind_some, Bool.false_eq_true, if_false, if_true, impl_isBits.j0, Bool.false_and]
theorem szBits_f (n : Int) (l : List Int) (b : Int) (hb : 0 ≤ b ∧ b ≤ 1048576) (hm : l.length ≤ maxLen) : laws_szBits.f n l b = some (-1) ∨ (laws_szBits.f n l b = some (b - (l.length : Int)) ∧ (l.length : Int) ≤ b) := by
  unfold laws_szBits.f laws_szIntS.f
  unfold maxLen at hm
  have e : wrap64 (b - (l.length : Int)) = b - (l.length : Int) := by unfold wrap64; omega
  rw [e]
  by_cases h : b - (l.length : Int) < 0
  · rw [if_pos h]
    exact .inl rfl
  · rw [if_neg h]
    simp only [Option.bind_some]
    rw [if_neg h]
    exact .inr ⟨rfl, by omega⟩
theorem toBits_f (n : Int) (l : List Int) (k : Nat) (hl : l.length ≤ 1048576) (hk : l.length < k) : laws_toBits.f k n l = some (n, l) := by
  unfold laws_toBits.f
  rw [toIntS_f l k (by omega) hk]
  rfl
theorem eqBits_f (n : Int) (l : List Int) (k : Nat) (hl : l.length ≤ 1048576) (hk : l.length < k) : laws_eqBits.f k n l n l = some true := by
  unfold laws_eqBits.f
  rw [if_pos rfl, eqIntS_f l k (by omega) hk]
  rfl
theorem own_f (n : Int) (ws : List Int) (h : ws.length ≤ 1048576) : spec_l2Own.f n ws = some (n, ws) := by
  unfold spec_l2Own.f
  simp only [Option.bind_some, List.nil_append, List.length_nil, Nat.zero_add]
  rw [if_pos (by omega)]
theorem clone_f (n : Int) (ws : List Int) (h : ws.length ≤ 1048576) : impl_cloneBits.f n ws = some (n, ws) := by
  unfold impl_cloneBits.f slices_Clone_int_int.f
  simp only [Option.bind_some, List.nil_append, List.length_nil, Nat.zero_add]
  rw [if_pos (by omega)]
  rfl
theorem good_bits (n : Int) (ws : List Int) (h : goodBits n ws = true) : 0 ≤ n ∧ n ≤ 96 ∧ (ws.length : Int) = nw n := by
  unfold goodBits at h
  simp only [Bool.and_eq_true, decide_eq_true_eq] at h
  exact ⟨h.1.1.1.1, h.1.1.1.2, h.1.1.2⟩
theorem markBits_f (n : Int) (l : List Int) (hl : l.length ≤ 1048576) (k : Nat) (hk : l.length < k) (m : Int) (hm : 0 ≤ m ∧ m ≤ 1000000000000) : ∃ ys, ys.length = l.length ∧ laws_markBits.f k n l m = some (m + l.length, ys) ∧ ∀ k', l.length < k' → laws_heldBits.f k' n ys m = some (m + l.length) := by
  obtain ⟨ys, h1, h2, h3⟩ := markheld l hl k hk m hm
  refine ⟨ys, h1, by unfold laws_markBits.f; rw [h2]; rfl, fun k' hk' => ?_⟩
  unfold laws_heldBits.f
  rw [h3 k' hk']
  simp only [Option.bind_some]
  rw [if_neg (by omega)]

theorem run2 (n n1 : Int) (vs : List Int) (L : Nat) (hv : vs.length = L) (hL : L ≤ 1048576) : ∀ (d k i : Nat) (ws : List Int), L = i + d → ws.length = L → d < k →
    ∃ us, us.length = L ∧ spec_BothBits.l0 k (L : Int) (i : Int) n1 vs n ws = some (n, us, true) ∧ impl_BothBits.l0 k vs (L : Int) (i : Int) n ws = some (n, us, true) := by
  intro d
  induction d with
  | zero =>
    intro k i ws hi hw hk
    obtain ⟨k, rfl⟩ : ∃ m, k = m + 1 := ⟨k - 1, by omega⟩
    have hn : ¬ ((i : Int) < (L : Int)) := by omega
    simp only [spec_BothBits.l0, impl_BothBits.l0, if_neg hn]
    exact ⟨ws, hw, rfl, rfl⟩
  | succ d ih =>
    intro k i ws hi hw hk
    obtain ⟨k, rfl⟩ : ∃ m, k = m + 1 := ⟨k - 1, by omega⟩
    have hp : (i : Int) < (L : Int) := by omega
    have h0 : 0 ≤ (i : Int) := by omega
    have hp1 : (i : Int) < (ws.length : Int) := by omega
    have hp2 : (i : Int) < (vs.length : Int) := by omega
    simp only [spec_BothBits.l0, impl_BothBits.l0, if_pos hp, if_pos h0, if_pos hp1, if_pos hp2]
    rw [w1 i (by omega)]
    exact ih k (i + 1) _ (by omega) (by rw [List.length_set]; exact hw) (by omega)
theorem both2 (n m : Int) (ws vs : List Int) (k : Nat) (hk : 1048700 ≤ k) (hw : ws.length ≤ 1048576) (hv : vs.length ≤ 1048576) : ∃ q us r, us.length ≤ 1048576 ∧ spec_BothBits.f k n ws m vs = some (q, us, r) ∧ impl_BothBits.f k n ws m vs = some (q, us, r) := by
  obtain ⟨k, rfl⟩ : ∃ m, k = m + 1 := ⟨k - 1, by omega⟩
  unfold spec_BothBits.f impl_BothBits.f spec_l2Two.f
  rw [sBits_f n ws (k + 1) (by omega), iBits_f n ws (k + 1) (by omega) hw, sBits_f m vs (k + 1) (by omega), iBits_f m vs (k + 1) (by omega) hv]
  simp only [Option.bind_some]
  cases hg : goodBits n ws with
  | false => exact ⟨0, [], false, by simp, by simp, by simp [impl_BothBits.j0]⟩
  | true =>
    cases hg2 : goodBits m vs with
    | false => exact ⟨0, [], false, by simp, by simp, by simp [impl_BothBits.j0]⟩
    | true =>
      obtain ⟨h1, h2, h3⟩ := good_bits n ws hg
      obtain ⟨h4, h5, h6⟩ := good_bits m vs hg2
      simp only [if_true, Option.bind_some]
      by_cases he : n = m
      · subst he
        obtain ⟨us, hu, e1, e2⟩ := run2 n n vs vs.length rfl hv vs.length k 0 ws (by omega) (by omega) (by omega)
        have e3 := at_rounds (g := fun k => spec_BothBits.l0 k (vs.length : Int) ((0 : Nat) : Int) n vs n ws) (fun k => spec_BothBits.mono_l k _ _ _ _ _ _) (show k ≤ k + 1 by omega) e1
        have hl : ws.length = vs.length := by omega
        refine ⟨n, us, true, by omega, ?_, ?_⟩
        · simp only [beq_self_eq_true, if_true, own_f n ws hw, Option.bind_some, hl]
          exact e3
        · simp only [bne_self_eq_false, impl_BothBits.j0, clone_f n ws hw, Option.bind_some, Bool.false_eq_true, if_false]
          exact e2
      · have q1 : (n == m) = false := by simp [he]
        have q2 : (n != m) = true := by simp [he]
        refine ⟨0, [], false, by simp, ?_, ?_⟩
        · simp [q1]
        · simp [q2, impl_BothBits.j0]

theorem FnExactBothBits : laws_FnExactBothBits.Pure := by
  intro n l m l' _ hl _ hl'
  obtain ⟨k, hk⟩ : ∃ k : Nat, 3000000 ≤ k := ⟨3000000, Nat.le_refl _⟩
  refine ⟨k, ?_⟩
  unfold laws_FnExactBothBits.f
  rcases szBits_f n l 1048576 (by omega) hl.1 with e | ⟨e, hs⟩
  · rw [e]
    rfl
  · rw [e]
    simp only [Option.bind_some]
    rw [if_neg (by omega)]
    rcases szBits_f m l' (1048576 - (l.length : Int)) (by omega) hl'.1 with e | ⟨e, hs'⟩
    · rw [e]
      rfl
    · rw [e]
      simp only [Option.bind_some]
      rw [if_neg (by omega)]
      obtain ⟨q, vs, r, hv, h1, h2⟩ := both2 n m l l' k (by omega) (by omega) (by omega)
      obtain ⟨ys, _, m1, _⟩ := markBits_f n l (by omega) k (by omega) 1 (by omega)
      obtain ⟨xs, _, m5, _⟩ := markBits_f m l' (by omega) k (by omega) (1 + (l.length : Int)) (by omega)
      obtain ⟨zs, _, m2, m3⟩ := markBits_f q vs (by omega) k (by omega) 1 (by omega)
      have m4 := m3 k (by omega)
      have n1 : ¬ (1 + (l.length : Int) < 0) := by omega
      have n3 : ¬ (1 + (l.length : Int) + (l'.length : Int) < 0) := by omega
      have n2 : ¬ (1 + (vs.length : Int) < 0) := by omega
      simp only [toBits_f n l k (by omega) (by omega), toBits_f m l' k (by omega) (by omega), Option.bind_some, h1, h2, eqBits_f q vs k (by omega) (by omega), eqBits_f n l k (by omega) (by omega), eqBits_f m l' k (by omega) (by omega), m1, m5, m2, m4, if_neg n1, if_neg n2, if_neg n3, bne_self_eq_false, if_true]
      simp

end Go.Proofs.Ytkbboibjhgcphaa.Pure
