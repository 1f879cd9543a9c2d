/- WordOf of the program returns what the reference returns, for every span and number, and leaves the span as it was. No condition. -/
import Derived.Test.YtclpnoimfdjnbaaQFnExactWordOfx7
namespace Go.Proofs.Ytclpnoimfdjnbaa.Pure
set_option linter.unusedVariables false
set_option linter.unusedSimpArgs false
open Go.RowKit Go.Proofs.Ytclpnoimfdjnbaa.QFnExactWordOf Go.Proofs.YtclpnoimfdjnbaaW.PrintWords Go.Proofs.YtclpnoimfdjnbaaW.PrintLast Go.Proofs.YtclpnoimfdjnbaaW.PrintMore

theorem w1 (i : Nat) (h : i < 9223372036854775000) : wrap64 ((i : Int) + 1) = ((i + 1 : Nat) : Int) := by unfold wrap64; omega
theorem toIntS_l0 (l : List Int) (hl : l.length ≤ 1099511627776) : ∀ (d k i : Nat) (acc : List Int), acc.length = l.length → l.length = i + d → d < k → (∀ j, j < i → acc[j]? = l[j]?) → laws_toIntS.l0 k l acc (i : Int) = some l := by
  intro d
  induction d with
  | zero =>
    intro k i acc ha hi hk hj
    obtain ⟨k, rfl⟩ : ∃ m, k = m + 1 := ⟨k - 1, by omega⟩
    simp only [laws_toIntS.l0]
    rw [if_neg (by omega)]
    congr 1
    apply List.ext_getElem?
    intro j
    by_cases h : j < i
    · exact hj j h
    · rw [List.getElem?_eq_none (by omega), List.getElem?_eq_none (by omega)]
  | succ d ih =>
    intro k i acc ha hi hk hj
    obtain ⟨k, rfl⟩ : ∃ m, k = m + 1 := ⟨k - 1, by omega⟩
    simp only [laws_toIntS.l0]
    rw [if_pos (by omega), if_pos (by omega), if_pos (by omega), w1 i (by omega), Int.toNat_natCast]
    apply ih k (i + 1) _ (by simp [ha]) (by omega) (by omega)
    intro j hjj
    rw [List.getElem?_set]
    by_cases e : i = j
    · subst e
      rw [if_pos rfl, if_pos (by omega)]
      unfold rd
      rw [Int.toNat_natCast, List.getD_eq_getElem?_getD, List.getElem?_eq_getElem (by omega : i < l.length)]
      rfl
    · rw [if_neg e]
      exact hj j (by omega)

theorem toIntS_f (l : List Int) (k : Nat) (hl : l.length ≤ 1099511627776) (hk : l.length < k) : laws_toIntS.f k l = some l := by
  unfold laws_toIntS.f
  rw [if_pos (by omega), if_pos (by omega), Int.toNat_natCast]
  exact toIntS_l0 l hl l.length k 0 _ (by simp) (by omega) hk (by intro j hj; omega)
theorem eqIntS_l0 (l : List Int) (hl : l.length ≤ 1099511627776) : ∀ (d k i : Nat), l.length = i + d → d < k → laws_eqIntS.l0 k l l (i : Int) = some true := by
  intro d
  induction d with
  | zero =>
    intro k i hi hk
    obtain ⟨k, rfl⟩ : ∃ m, k = m + 1 := ⟨k - 1, by omega⟩
    simp only [laws_eqIntS.l0]
    rw [if_neg (by omega)]
  | succ d ih =>
    intro k i hi hk
    obtain ⟨k, rfl⟩ : ∃ m, k = m + 1 := ⟨k - 1, by omega⟩
    simp only [laws_eqIntS.l0]
    rw [if_pos (by omega), if_pos (by omega), if_pos (by omega), if_pos trivial, w1 i (by omega)]
    exact ih k (i + 1) (by omega) (by omega)

theorem eqIntS_f (l : List Int) (k : Nat) (hl : l.length ≤ 1099511627776) (hk : l.length < k) : laws_eqIntS.f k l l = some true := by
  unfold laws_eqIntS.f
  rw [if_pos rfl]
  exact eqIntS_l0 l hl l.length k 0 (by omega) hk
theorem in_yes (a lo hi : Int) (h : lo ≤ a ∧ a ≤ hi) : spec_l1In.f a lo hi = some true := by
  unfold spec_l1In.f
  rw [if_pos h.1]
  simp only [Option.some.injEq, decide_eq_true_eq]
  exact h.2
theorem in_no (a lo hi : Int) (h : ¬ (lo ≤ a ∧ a ≤ hi)) : spec_l1In.f a lo hi = some false := by
  unfold spec_l1In.f
  by_cases h0 : a ≥ lo
  · rw [if_pos h0]
    simp only [Option.some.injEq, decide_eq_false_iff_not]
    omega
  · rw [if_neg h0]
theorem wi_yes (a lo hi : Int) (h : lo ≤ a ∧ a ≤ hi) : impl_within.f a lo hi = some true := by
  unfold impl_within.f
  rw [if_pos h.1]
  simp only [Option.some.injEq, decide_eq_true_eq]
  exact h.2
theorem wi_no (a lo hi : Int) (h : ¬ (lo ≤ a ∧ a ≤ hi)) : impl_within.f a lo hi = some false := by
  unfold impl_within.f
  by_cases h0 : a ≥ lo
  · rw [if_pos h0]
    simp only [Option.some.injEq, decide_eq_false_iff_not]
    omega
  · rw [if_neg h0]
theorem all_l0 (lo up : Int) (l : List Int) (hl : l.length ≤ 1048576) : ∀ (d k i : Nat), l.length = i + d → d < k → spec_l1All.l0 k lo up l (l.length : Int) (i : Int) = some ((l.drop i).all fun x => decide (lo ≤ x) && decide (x ≤ up)) := by
  intro d
  induction d with
  | zero =>
    intro k i hi hk
    obtain ⟨k, rfl⟩ : ∃ m, k = m + 1 := ⟨k - 1, by omega⟩
    have hn : ¬ ((i : Int) < (l.length : Int)) := by omega
    simp only [spec_l1All.l0, if_neg hn]
    rw [List.drop_of_length_le (by omega)]
    rfl
  | succ d ih =>
    intro k i hi hk
    obtain ⟨k, rfl⟩ : ∃ m, k = m + 1 := ⟨k - 1, by omega⟩
    have hp : (i : Int) < (l.length : Int) := by omega
    have h0 : 0 ≤ (i : Int) := by omega
    have hx : rd l (i : Int) = l[i] := by
      unfold rd
      rw [Int.toNat_natCast, List.getD_eq_getElem?_getD, List.getElem?_eq_getElem (by omega : i < l.length)]
      rfl
    simp only [spec_l1All.l0, if_pos hp, if_pos h0, w1 i (by omega), hx]
    rw [List.drop_eq_getElem_cons (by omega : i < l.length), List.all_cons, ih k (i + 1) (by omega) (by omega)]
    generalize l[i] = x
    by_cases h1 : lo ≤ x ∧ x ≤ up
    · rw [in_yes x lo up h1, decide_eq_true h1.1, decide_eq_true h1.2]
      simp only [Option.bind_some, if_true, Bool.true_and]
    · rw [in_no x lo up h1]
      have : (decide (lo ≤ x) && decide (x ≤ up)) = false := by
        simp only [Bool.and_eq_false_iff, decide_eq_false_iff_not]
        omega
      rw [this]
      simp only [Option.bind_some, Bool.false_eq_true, if_false, Bool.false_and]
theorem tdiv16 (a : Int) (h : 0 ≤ a) : Int.tdiv a 16 = a / 16 := Int.tdiv_eq_ediv_of_nonneg h
theorem tmod16 (a : Int) (h : 0 ≤ a) : Int.tmod a 16 = a % 16 := Int.tmod_eq_emod_of_nonneg h
theorem u64_id (a : Int) (h : 0 ≤ a ∧ a < 1000) : IntKind.u64.wrap a = a := by
  simp [IntKind.wrap, IntKind.bits, IntKind.signed]
  omega
theorem w64_id (a : Int) (h : -4611686018427387904 ≤ a ∧ a ≤ 4611686018427387904) : wrap64 a = a := by unfold wrap64; omega
/-- How many words. -/
def nw (n : Int) : Int := (n + 15) / 16
theorem words_f (n : Int) (h : 0 ≤ n ∧ n ≤ 96) : wrap64 (Int.tdiv (wrap64 ((wrap64 (n + 16)) - 1)) 16) = nw n := by
  rw [w64_id (n + 16) (by omega), w64_id (n + 16 - 1) (by omega), tdiv16 _ (by omega), w64_id _ (by omega)]
  unfold nw
  omega
theorem and_one (x : Int) (h : 0 ≤ x ∧ x < 65536) : Go.bits .and .i64 x 1 = x % 2 := by
  have := bits_mask .i64 16 (by decide) (fun n h0 h1 => by rw [IntKind.wrap_i64]; omega) 1 (by decide) x h.1 (by omega)
  simpa using this
theorem shr_f (x : Int) (j : Nat) (hj : j ≤ 16) : shr .i64 x (j : Int) = x / 2 ^ j := by
  unfold shr
  rw [Int.toNat_natCast, Nat.min_eq_left (by simp [IntKind.bits]; omega)]
theorem div_range (x : Int) (j : Nat) (h : 0 ≤ x ∧ x < 65536) : 0 ≤ x / 2 ^ j ∧ x / 2 ^ j < 65536 := by
  have hp : (0 : Int) < 2 ^ j := Int.pow_pos (by decide)
  have h1 : 0 ≤ x / 2 ^ j := Int.ediv_nonneg h.1 (by omega)
  have h2 : x / 2 ^ j ≤ x := Int.ediv_le_self _ h.1
  omega
/-- Bit j of a word of less than 2^(j+1). -/
theorem bit_step (x : Int) (j : Nat) (h : 0 ≤ x ∧ x < 65536) : (x < 2 ^ (j + 1) → (x / 2 ^ j) % 2 = 0 → x < 2 ^ j) ∧ (x < 2 ^ j → (x / 2 ^ j) % 2 = 0) := by
  have hp : (0 : Int) < 2 ^ j := Int.pow_pos (by decide)
  have hs : (2 : Int) ^ (j + 1) = 2 * 2 ^ j := by rw [Int.pow_succ]; omega
  constructor
  · intro h1 h2
    rw [hs] at h1
    have h3 : x / 2 ^ j < 2 := (Int.ediv_lt_iff_lt_mul hp).2 h1
    have h4 : 0 ≤ x / 2 ^ j := Int.ediv_nonneg h.1 (by omega)
    have h5 : x / 2 ^ j = 0 := by omega
    have h6 := Int.emod_add_mul_ediv x (2 ^ j)
    rw [h5] at h6
    have h7 := Int.emod_lt_of_pos x hp
    omega
  · intro h1
    rw [Int.ediv_eq_zero_of_lt h.1 h1]
    rfl
/-- A valid bitmap. -/
def goodBits (n : Int) (ws : List Int) : Bool := decide (0 ≤ n ∧ n ≤ 96) && decide ((ws.length : Int) = nw n) && ws.all (fun x => decide (0 ≤ x) && decide (x ≤ 65535)) && (decide (ws.length = 0) || decide (ws.getD (ws.length - 1) 0 < 2 ^ (n - 16 * ((ws.length : Int) - 1)).toNat))
theorem is_f (n : Int) (ws : List Int) (i j : Nat) (hi : i < ws.length) (hl : ws.length ≤ 6) (hj : j < 16) (hw : 0 ≤ ws.getD i 0 ∧ ws.getD i 0 < 65536) : spec_l2Is.f n ws ((16 * i + j : Nat) : Int) = some ((ws.getD i 0 / 2 ^ j) % 2 == 1) := by
  unfold spec_l2Is.f
  rw [tdiv16 _ (by omega), tmod16 _ (by omega)]
  have e1 : ((16 * i + j : Nat) : Int) / 16 = (i : Int) := by omega
  have e2 : ((16 * i + j : Nat) : Int) % 16 = (j : Int) := by omega
  rw [e1, e2, w64_id _ (by omega), u64_id _ (by omega)]
  rw [if_pos (by omega), if_pos (by omega), if_pos (by omega)]
  have e3 : rd ws (i : Int) = ws.getD i 0 := by unfold rd; rw [Int.toNat_natCast]
  rw [e3, shr_f _ j (by omega), and_one _ (div_range _ j hw)]
theorem sBits_l0 (n : Int) (ws : List Int) (h1 : 0 < ws.length) (hl : ws.length ≤ 6) (hw : 0 ≤ ws.getD (ws.length - 1) 0 ∧ ws.getD (ws.length - 1) 0 < 65536) : ∀ (d k j : Nat), j + d = 16 → d < k →
    spec_GoodBits.l0 k ((16 * (ws.length - 1) + j : Nat) : Int) n ws = some (decide (ws.getD (ws.length - 1) 0 < 2 ^ j)) := by
  intro d
  induction d with
  | zero =>
    intro k j hj hk
    obtain ⟨k, rfl⟩ : ∃ m, k = m + 1 := ⟨k - 1, by omega⟩
    simp only [spec_GoodBits.l0]
    rw [w64_id _ (by omega), if_neg (by omega)]
    obtain rfl : j = 16 := by omega
    rw [decide_eq_true (by omega)]
  | succ d ih =>
    intro k j hj hk
    obtain ⟨k, rfl⟩ : ∃ m, k = m + 1 := ⟨k - 1, by omega⟩
    simp only [spec_GoodBits.l0]
    rw [w64_id _ (by omega), if_pos (by omega), is_f n ws (ws.length - 1) j (by omega) hl (by omega) hw, w1 _ (by omega)]
    have hs := bit_step (ws.getD (ws.length - 1) 0) j hw
    have e := ih k (j + 1) (by omega) (by omega)
    rw [show 16 * (ws.length - 1) + (j + 1) = 16 * (ws.length - 1) + j + 1 by omega] at e
    simp only [Option.bind_some]
    by_cases hb : ws.getD (ws.length - 1) 0 / 2 ^ j % 2 = 1
    · rw [if_pos (by simpa using hb), decide_eq_false]
      intro hc
      have := hs.2 hc
      omega
    · rw [if_neg (by simpa using hb), e]
      have hb0 : ws.getD (ws.length - 1) 0 / 2 ^ j % 2 = 0 := by omega
      congr 1
      by_cases hc : ws.getD (ws.length - 1) 0 < 2 ^ (j + 1)
      · rw [decide_eq_true hc, decide_eq_true (hs.1 hc hb0)]
      · rw [decide_eq_false hc, decide_eq_false]
        intro h2
        apply hc
        have hsu : (2 : Int) ^ (j + 1) = 2 * 2 ^ j := by rw [Int.pow_succ]; omega
        omega
theorem sBits_f (n : Int) (ws : List Int) (k : Nat) (hk : 100 ≤ k) : spec_GoodBits.f k n ws = some (goodBits n ws) := by
  obtain ⟨k, rfl⟩ : ∃ m, k = m + 1 := ⟨k - 1, by omega⟩
  unfold spec_GoodBits.f goodBits
  by_cases h1 : 0 ≤ n ∧ n ≤ 96
  · rw [in_yes n 0 96 h1, decide_eq_true h1]
    unfold spec_l2Words.f
    rw [words_f n h1]
    simp only [Option.bind_some, if_true, Bool.true_and]
    by_cases h2 : (ws.length : Int) = nw n
    · rw [if_pos h2, decide_eq_true h2]
      have hl : ws.length ≤ 6 := by unfold nw at h2; omega
      have e := all_l0 0 65535 ws (by omega) ws.length (k + 1) 0 (by omega) (by omega)
      have e' : spec_l1All.f (k + 1) ws 0 65535 = some (ws.all fun x => decide (0 ≤ x) && decide (x ≤ 65535)) := e
      rw [e']
      simp only [Option.bind_some, Bool.true_and]
      cases ha : ws.all (fun x => decide (0 ≤ x) && decide (x ≤ 65535)) with
      | false => simp only [spec_GoodBits.j0, Bool.not_false, if_true, Bool.false_and]
      | true =>
        simp only [spec_GoodBits.j0, Bool.not_true, Bool.false_eq_true, if_false, Bool.true_and]
        by_cases hz : ws.length = 0
        · have hn : n = 0 := by unfold nw at h2; omega
          subst hn
          obtain ⟨k, rfl⟩ : ∃ m, k = m + 1 := ⟨k - 1, by omega⟩
          simp only [spec_GoodBits.l0]
          rw [w64_id _ (by omega), if_neg (by omega), decide_eq_true hz]
          rfl
        · have hw : 0 ≤ ws.getD (ws.length - 1) 0 ∧ ws.getD (ws.length - 1) 0 < 65536 := by
            rw [List.all_eq_true] at ha
            rw [List.getD_eq_getElem?_getD, List.getElem?_eq_getElem (by omega : ws.length - 1 < ws.length)]
            have := ha _ (List.getElem_mem (by omega : ws.length - 1 < ws.length))
            simp only [Bool.and_eq_true, decide_eq_true_eq] at this
            simp only [Option.getD_some]
            omega
          have hr : n = ((16 * (ws.length - 1) + (n - 16 * ((ws.length : Int) - 1)).toNat : Nat) : Int) := by unfold nw at h2; omega
          have e2 := sBits_l0 n ws (by omega) hl hw (16 - (n - 16 * ((ws.length : Int) - 1)).toNat) k (n - 16 * ((ws.length : Int) - 1)).toNat (by unfold nw at h2; omega) (by omega)
          rw [← hr] at e2
          rw [e2, decide_eq_false hz, Bool.false_or]
    · rw [if_neg h2, decide_eq_false h2]
      simp only [spec_GoodBits.j0, if_true, Bool.false_and]
  · rw [in_no n 0 96 h1, decide_eq_false h1]
    simp only [Option.bind_some, spec_GoodBits.j0, Bool.false_eq_true, if_false, if_true, Bool.false_and]
theorem pow16f : ∀ j : Fin 17, (2 : Int) ^ j.val ≤ 65536 := by decide
theorem pow16 (j : Nat) (h : j ≤ 16) : (2 : Int) ^ j ≤ 65536 := pow16f ⟨j, by omega⟩
theorem shl_f (j : Nat) (hj : j ≤ 16) : shl .i64 1 (j : Int) = 2 ^ j := by
  unfold shl
  rw [Int.toNat_natCast, Nat.min_eq_left (by simp [IntKind.bits]; omega), Int.one_mul, IntKind.wrap_i64]
  have := pow16 j hj
  have : (0 : Int) < 2 ^ j := Int.pow_pos (by decide)
  omega
theorem iBits_l0 (n : Int) (ws : List Int) (hn : 0 ≤ n ∧ n ≤ 96) (h2 : (ws.length : Int) = nw n) : ∀ (d k i : Nat), ws.length = i + d → d < k →
    impl_isBits.l0 k ws (ws.length : Int) (i : Int) n ws = some ((ws.drop i).all (fun x => decide (0 ≤ x) && decide (x ≤ 65535)) && (decide (d = 0) || decide (ws.getD (ws.length - 1) 0 < 2 ^ (n - 16 * ((ws.length : Int) - 1)).toNat))) := by
  have hl : ws.length ≤ 6 := by unfold nw at h2; omega
  intro d
  induction d with
  | zero =>
    intro k i hi hk
    obtain ⟨k, rfl⟩ : ∃ m, k = m + 1 := ⟨k - 1, by omega⟩
    have hn : ¬ ((i : Int) < (ws.length : Int)) := by omega
    simp only [impl_isBits.l0, if_neg hn]
    rw [List.drop_of_length_le (by omega)]
    rfl
  | succ d ih =>
    intro k i hi hk
    obtain ⟨k, rfl⟩ : ∃ m, k = m + 1 := ⟨k - 1, by omega⟩
    have hp : (i : Int) < (ws.length : Int) := by omega
    have h0 : 0 ≤ (i : Int) := by omega
    have hx : rd ws (i : Int) = ws[i] := by
      unfold rd
      rw [Int.toNat_natCast, List.getD_eq_getElem?_getD, List.getElem?_eq_getElem (by omega : i < ws.length)]
      rfl
    simp only [impl_isBits.l0, if_pos hp, if_pos h0, w1 i (by omega), hx]
    rw [w64_id ((i : Int) * 16) (by omega), w64_id (n - (i : Int) * 16) (by omega)]
    rw [List.drop_eq_getElem_cons (by omega : i < ws.length), List.all_cons, ih k (i + 1) (by omega) (by omega)]
    by_cases hlast : d = 0
    · -- the last word
      have hr : mn 16 (n - (i : Int) * 16) = ((n - 16 * ((ws.length : Int) - 1)).toNat : Int) := by unfold mn; unfold nw at h2; split <;> omega
      have hr16 : (n - 16 * ((ws.length : Int) - 1)).toNat ≤ 16 := by unfold nw at h2; omega
      rw [hr, if_pos (by omega), shl_f _ hr16]
      have hge : ws.getD (ws.length - 1) 0 = ws[i] := by
        have : ws.length - 1 = i := by omega
        rw [this, List.getD_eq_getElem?_getD, List.getElem?_eq_getElem (by omega : i < ws.length)]
        rfl
      rw [hge]
      generalize (n - 16 * ((ws.length : Int) - 1)).toNat = r at hr16
      generalize ws[i] = x
      have hpow := pow16 r hr16
      have hpos : (0 : Int) < 2 ^ r := Int.pow_pos (by decide)
      rw [w64_id _ (by omega)]
      rw [List.drop_of_length_le (by omega)]
      subst hlast
      by_cases hin : 0 ≤ x ∧ x ≤ 2 ^ r - 1
      · rw [wi_yes x 0 _ hin, decide_eq_true hin.1, decide_eq_true (by omega : x ≤ 65535), decide_eq_true (by omega : x < 2 ^ r)]
        rfl
      · rw [wi_no x 0 _ hin]
        simp only [Option.bind_some, Bool.false_eq_true, if_false]
        congr 1
        by_cases hx0 : 0 ≤ x
        · rw [decide_eq_false (by omega : ¬ x < 2 ^ r)]
          simp
        · rw [decide_eq_false hx0]
          simp
    · have hr : mn 16 (n - (i : Int) * 16) = ((16 : Nat) : Int) := by unfold mn; unfold nw at h2; split <;> omega
      rw [hr, if_pos (by omega), shl_f 16 (by omega)]
      generalize ws[i] = x
      rw [w64_id _ (by omega)]
      have h16 : ((2 : Int) ^ 16 - 1) = 65535 := by decide
      rw [h16, decide_eq_false hlast, decide_eq_false (by omega : ¬ d + 1 = 0)]
      by_cases hin : 0 ≤ x ∧ x ≤ 65535
      · rw [wi_yes x 0 _ hin, decide_eq_true hin.1, decide_eq_true hin.2]
        simp only [Option.bind_some, if_true, Bool.true_and]
      · rw [wi_no x 0 _ hin]
        have hf : (decide (0 ≤ x) && decide (x ≤ 65535)) = false := by
          simp only [Bool.and_eq_false_iff, decide_eq_false_iff_not]
          omega
        rw [hf]
        simp only [Option.bind_some, Bool.false_eq_true, if_false, Bool.false_and]
theorem iBits_f (n : Int) (ws : List Int) (k : Nat) (hk : 100 ≤ k) (hb : ws.length ≤ 1048576) : impl_isBits.f k n ws = some (goodBits n ws) := by
  obtain ⟨k, rfl⟩ : ∃ m, k = m + 1 := ⟨k - 1, by omega⟩
  unfold impl_isBits.f goodBits
  by_cases h1 : 0 ≤ n ∧ n ≤ 96
  · rw [wi_yes n 0 96 h1, decide_eq_true h1, words_f n h1]
    simp only [Option.bind_some, if_true, Bool.true_and, impl_isBits.j0]
    by_cases h2 : (ws.length : Int) = nw n
    · rw [if_neg (by simp [h2])]
      have hl : ws.length ≤ 6 := by unfold nw at h2; omega
      have e := iBits_l0 n ws h1 h2 ws.length k 0 (by omega) (by omega)
      have e' : impl_isBits.l0 k ws (ws.length : Int) 0 n ws = some (ws.all (fun x => decide (0 ≤ x) && decide (x ≤ 65535)) && (decide (ws.length = 0) || decide (ws.getD (ws.length - 1) 0 < 2 ^ (n - 16 * ((ws.length : Int) - 1)).toNat))) := e
      rw [e', decide_eq_true h2, Bool.true_and]
    · rw [if_pos (by simpa using h2), decide_eq_false h2]
      simp only [Bool.false_and]
  · rw [wi_no n 0 96 h1, decide_eq_false h1]
    simp only [Option.bind_some, Bool.false_eq_true, if_false, if_true, impl_isBits.j0, Bool.false_and]
theorem szBits_f (n : Int) (l : List Int) (hm : l.length ≤ maxLen) : laws_szBits.f n l 1048576 = some (-1) ∨ (laws_szBits.f n l 1048576 = some (1048576 - (l.length : Int)) ∧ l.length ≤ 1048576) := by
  unfold laws_szBits.f laws_szIntS.f
  unfold maxLen at hm
  have e : wrap64 (1048576 - (l.length : Int)) = 1048576 - (l.length : Int) := by unfold wrap64; omega
  rw [e]
  by_cases h : 1048576 - (l.length : Int) < 0
  · rw [if_pos h]
    exact .inl rfl
  · rw [if_neg h]
    simp only [Option.bind_some]
    rw [if_neg h]
    exact .inr ⟨rfl, by omega⟩
theorem toBits_f (n : Int) (l : List Int) (k : Nat) (hl : l.length ≤ 1048576) (hk : l.length < k) : laws_toBits.f k n l = some (n, l) := by
  unfold laws_toBits.f
  rw [toIntS_f l k (by omega) hk]
  rfl
theorem eqBits_f (n : Int) (l : List Int) (k : Nat) (hl : l.length ≤ 1048576) (hk : l.length < k) : laws_eqBits.f k n l n l = some true := by
  unfold laws_eqBits.f
  rw [if_pos rfl, eqIntS_f l k (by omega) hk]
  rfl
def classesL : List Int := [1, 2, 3, 4, 5, 6, 7, 8, 9, 10, 11, 12, 13, 14, 15, 16, 18, 20, 22, 24, 27, 30, 33, 37, 41, 46, 51, 57, 64, 72, 81, 91, 102, 114, 128, 144, 162, 182, 204, 229, 256]
theorem sclasses60 : spec_ClassesOf.f 60 = some classesL := by decide +kernel
theorem iclasses60 : impl_classes.f 60 = some classesL := by decide +kernel
theorem sclasses_f (k : Nat) (hk : 60 ≤ k) : spec_ClassesOf.f k = some classesL := at_rounds (g := fun k => spec_ClassesOf.f k) (fun k => spec_ClassesOf.mono k) hk sclasses60
theorem iclasses_f (k : Nat) (hk : 60 ≤ k) : impl_classes.f k = some classesL := at_rounds (g := fun k => impl_classes.f k) (fun k => impl_classes.mono k) hk iclasses60
theorem sclass_no (a0 : Int) (h : ¬ (0 ≤ a0 ∧ a0 < 41)) (k : Nat) (hk : 60 ≤ k) : spec_l1Class.f k a0 = some false := by
  unfold spec_l1Class.f
  by_cases h0 : a0 ≥ 0
  · rw [if_pos h0, sclasses_f k hk]
    simp only [Option.bind_some]
    have hl : (classesL.length : Int) = 41 := by decide +kernel
    rw [hl]
    simp only [Option.some.injEq, decide_eq_false_iff_not]
    omega
  · rw [if_neg h0]
theorem iclass_no (a0 : Int) (h : ¬ (0 ≤ a0 ∧ a0 < 41)) (k : Nat) (hk : 60 ≤ k) : impl_isClass.f k a0 = some false := by
  unfold impl_isClass.f
  rw [iclasses_f k hk]
  have hl : wrap64 ((classesL.length : Int) - 1) = 40 := by decide +kernel
  simp only [Option.bind_some, hl]
  rw [wi_no a0 0 40 (by omega)]
  rfl
def okClass (c : Nat) : Bool :=
  match spec_l1Class.f 60 (c : Int), impl_isClass.f 60 (c : Int), spec_l4Slots.f 60 (c : Int), impl_slotsIn.f 60 (c : Int), spec_l1Pages.f 60 (c : Int), impl_pagesFor.f 60 (c : Int) with
  | some true, some true, some s, some s', some p, some p' => s == s' && p == p' && decide (1 ≤ s) && decide (s ≤ 96) && decide (1 ≤ p) && decide (p ≤ 8)
  | _, _, _, _, _, _ => false
theorem classes_ok : ∀ m : Fin 41, okClass m.val = true := by decide +kernel
theorem at_class (a0 : Int) (h : 0 ≤ a0 ∧ a0 < 41) (k : Nat) (hk : 60 ≤ k) : spec_l1Class.f k a0 = some true ∧ impl_isClass.f k a0 = some true ∧ ∃ s p, 1 ≤ s ∧ s ≤ 96 ∧ 1 ≤ p ∧ p ≤ 8 ∧ spec_l4Slots.f k a0 = some s ∧ impl_slotsIn.f k a0 = some s ∧ spec_l1Pages.f k a0 = some p ∧ impl_pagesFor.f k a0 = some p := by
  obtain ⟨c, rfl⟩ : ∃ c : Nat, a0 = (c : Int) := ⟨a0.toNat, by omega⟩
  have hs := classes_ok ⟨c, by omega⟩
  simp only [okClass] at hs
  split at hs
  · rename_i s s' p p' h1 h2 h3 h4 h5 h6
    simp only [Bool.and_eq_true, beq_iff_eq, decide_eq_true_eq] at hs
    obtain ⟨⟨⟨⟨⟨rfl, rfl⟩, g1⟩, g2⟩, g3⟩, g4⟩ := hs
    exact ⟨at_rounds (g := fun k => spec_l1Class.f k (c : Int)) (fun k => spec_l1Class.mono _ k) hk h1, at_rounds (g := fun k => impl_isClass.f k (c : Int)) (fun k => impl_isClass.mono _ k) hk h2, s, p, g1, g2, g3, g4,
      at_rounds (g := fun k => spec_l4Slots.f k (c : Int)) (fun k => spec_l4Slots.mono _ k) hk h3, at_rounds (g := fun k => impl_slotsIn.f k (c : Int)) (fun k => impl_slotsIn.mono _ k) hk h4,
      at_rounds (g := fun k => spec_l1Pages.f k (c : Int)) (fun k => spec_l1Pages.mono _ k) hk h5, at_rounds (g := fun k => impl_pagesFor.f k (c : Int)) (fun k => impl_pagesFor.mono _ k) hk h6⟩
  · cases hs
theorem span_both (fr cl n : Int) (ws : List Int) (k : Nat) (hk : 200 ≤ k) (hb : ws.length ≤ 1048576) : ∃ b, spec_GoodSpan.f k fr cl n ws = some b ∧ impl_isSpan.f k fr cl n ws = some b := by
  obtain ⟨k, rfl⟩ : ∃ m, k = m + 1 := ⟨k - 1, by omega⟩
  unfold spec_GoodSpan.f impl_isSpan.f
  by_cases hc : 0 ≤ cl ∧ cl < 41
  · obtain ⟨c1, c2, s, p, hs1, hs2, hp1, hp2, c3, c4, _, c6⟩ := at_class cl hc (k + 1) (by omega)
    obtain ⟨_, _, s', p', _, _, _, _, _, _, c5, c6'⟩ := at_class cl hc k (by omega)
    have epp : p' = p := by
      have := at_rounds (g := fun k => impl_pagesFor.f k cl) (fun k => impl_pagesFor.mono _ k) (Nat.le_succ k) c6'
      have h3 : some p' = some p := this.symm.trans c6
      exact Option.some.inj h3
    subst epp
    rw [c1, c2, sBits_f n ws (k + 1) (by omega), iBits_f n ws (k + 1) (by omega) hb, c3, c4, c6]
    have e : wrap64 (32 - p') = 32 - p' := by unfold wrap64; omega
    simp only [Option.bind_some, if_true, e, spec_GoodSpan.j0, c5]
    by_cases hf : 0 ≤ fr ∧ fr ≤ 32 - p'
    · rw [wi_yes fr 0 _ hf, in_yes fr 0 _ hf]
      simp only [Option.bind_some, if_true]
      cases goodBits n ws with
      | false => exact ⟨_, rfl, rfl⟩
      | true =>
        simp only [if_true]
        by_cases hn : n = s
        · subst hn
          exact ⟨true, by simp, by simp⟩
        · exact ⟨false, by simp [hn], by simp [hn]⟩
    · rw [wi_no fr 0 _ hf, in_no fr 0 _ hf]
      simp only [Option.bind_some, Bool.false_eq_true, if_false]
      refine ⟨false, ?_, rfl⟩
      cases goodBits n ws with
      | false => rfl
      | true =>
        simp only [if_true]
        by_cases hn : n = s
        · simp [hn]
        · simp [hn]
  · rw [sclass_no cl hc _ (by omega), iclass_no cl hc _ (by omega)]
    exact ⟨false, by simp [spec_GoodSpan.j0], rfl⟩
theorem szSpan_f (a b n : Int) (l : List Int) (hm : l.length ≤ maxLen) : laws_szSpan.f a b n l 1048576 = some (-1) ∨ (laws_szSpan.f a b n l 1048576 = some (1048576 - (l.length : Int)) ∧ l.length ≤ 1048576) := by
  unfold laws_szSpan.f
  rcases szBits_f n l hm with e | ⟨e, h⟩
  · rw [e]
    exact .inl rfl
  · rw [e]
    simp only [Option.bind_some]
    rw [if_neg (by omega)]
    exact .inr ⟨rfl, h⟩
theorem toSpan_f (a b n : Int) (l : List Int) (k : Nat) (hl : l.length ≤ 1048576) (hk : l.length < k) : laws_toSpan.f k a b n l = some (a, b, n, l) := by
  unfold laws_toSpan.f
  rw [toBits_f n l k hl hk]
  rfl
theorem eqSpan_f (a b n : Int) (l : List Int) (k : Nat) (hl : l.length ≤ 1048576) (hk : l.length < k) : laws_eqSpan.f k a b n l a b n l = some true := by
  unfold laws_eqSpan.f
  rw [if_pos rfl, if_pos rfl, eqBits_f n l k hl hk]
  rfl

theorem word_both (a cl n x : Int) (ws : List Int) (k : Nat) (hk : 300 ≤ k) (hb : ws.length ≤ 1048576) : ∃ r t, spec_WordOf.f k a cl n ws x = some (r, t) ∧ impl_WordOf.f k a cl n ws x = some (r, t) := by
  obtain ⟨b, e1, e2⟩ := span_both a cl n ws k (by omega) hb
  unfold spec_WordOf.f impl_WordOf.f spec_l4Slot.f
  rw [e1, e2]
  simp only [Option.bind_some]
  cases b with
  | false => exact ⟨0, false, rfl, rfl⟩
  | true =>
    have hc : 0 ≤ cl ∧ cl < 41 := by
      by_cases hc : 0 ≤ cl ∧ cl < 41
      · exact hc
      · have : spec_GoodSpan.f k a cl n ws = some false := by
          unfold spec_GoodSpan.f
          rw [sclass_no cl hc k (by omega)]
          obtain ⟨k, rfl⟩ : ∃ m, k = m + 1 := ⟨k - 1, by omega⟩
          simp [spec_GoodSpan.j0]
        rw [this] at e1
        simp at e1
    simp only [if_true]
    by_cases hx : 0 ≤ x ∧ x ≤ wrap64 (n - 1)
    · rw [in_yes x 0 _ hx, wi_yes x 0 _ hx]
      have hl : (classesL.length : Int) = 41 := by decide +kernel
      have hc2 : cl < (classesL.length : Int) := by omega
      simp only [Option.bind_some, if_true, spec_l4Word.f, sclasses_f k (by omega), iclasses_f k (by omega), if_pos hc.1, if_pos hc2]
      exact ⟨_, _, rfl, rfl⟩
    · rw [in_no x 0 _ hx, wi_no x 0 _ hx]
      exact ⟨0, false, rfl, rfl⟩
theorem FnExactWordOf : laws_FnExactWordOf.Pure := by
  intro a b n l x _ _ _ hl _
  obtain ⟨k, hk⟩ : ∃ k : Nat, 3000000 ≤ k := ⟨3000000, Nat.le_refl _⟩
  refine ⟨k, ?_⟩
  unfold laws_FnExactWordOf.f
  rcases szSpan_f a b n l hl.1 with e | ⟨e, hs⟩
  · rw [e]
    rfl
  · rw [e]
    simp only [Option.bind_some]
    rw [if_neg (by omega)]
    obtain ⟨r, t, h1, h2⟩ := word_both a b n x l k (by omega) hs
    simp only [toSpan_f a b n l k hs (by omega), Option.bind_some, h1, h2, eqSpan_f a b n l k hs (by omega), bne_self_eq_false, if_true]
    simp

end Go.Proofs.Ytclpnoimfdjnbaa.Pure
