/- For drawn sizes the program's classes and wastes are the reference's, and at most an eighth of an object's size is wasted: the draws lie in 0 to 257, where all is checked, and a drawn list has at most 41 sizes, of which the sums are told by reasoning. No condition. -/
import Derived.Test.YtjpdbgobabjpkaaQFnSizesx3
namespace Go.Proofs.Ytjpdbgobabjpkaa.Pure
set_option linter.unusedVariables false
set_option linter.unusedSimpArgs false
open Go.RowKit Go.Proofs.Ytjpdbgobabjpkaa.QFnSizes Go.Proofs.YtjpdbgobabjpkaaW.PrintWords Go.Proofs.YtjpdbgobabjpkaaW.PrintLast Go.Proofs.YtjpdbgobabjpkaaW.PrintMore
theorem w1 (i : Nat) (h : i < 9223372036854775000) : wrap64 ((i : Int) + 1) = ((i + 1 : Nat) : Int) := by unfold wrap64; omega
theorem andB (x : Int) : ∃ b, wrap64 (Go.bits .and .u64 x 255) = b ∧ 0 ≤ b ∧ b ≤ 255 := by
  have e : Go.bits .and .u64 x 255 = IntKind.u64.wrap ((BitVec.ofInt 64 x &&& BitVec.ofInt 64 255).toNat : Int) := rfl
  have hle : (BitVec.ofInt 64 x &&& BitVec.ofInt 64 255).toNat ≤ 255 := by
    rw [BitVec.toNat_and]
    exact Nat.le_trans Nat.and_le_right (by decide)
  rw [e]
  generalize (BitVec.ofInt 64 x &&& BitVec.ofInt 64 255).toNat = m at hle
  have hw : IntKind.u64.wrap (m : Int) = (m : Int) := by
    have h2 : IntKind.u64.wrap (m : Int) = (m : Int) % 18446744073709551616 := rfl
    rw [h2]
    omega
  have hw2 : wrap64 (m : Int) = (m : Int) := by unfold wrap64; omega
  rw [hw, hw2]
  exact ⟨_, rfl, by omega, by omega⟩
theorem next_some (l : List Int) (hl : l.length ≤ maxLen) (hw : ∀ y ∈ l, (Lit.int .u8 y).wf = true) (a s : Int) (ha : 0 ≤ a ∧ a ≤ 4611686018427387904) : ∃ b s', spec_l1Cur_next.f l a s = some (b, a + 1, s') ∧ 0 ≤ b ∧ b ≤ 255 := by
  have ew : wrap64 (a + 1) = a + 1 := by unfold wrap64; omega
  unfold spec_l1Cur_next.f
  rw [ew]
  by_cases h1 : a < (l.length : Int)
  · rw [if_pos h1, if_pos ha.1, if_pos (by omega)]
    have hm : rd l a ∈ l := by
      unfold rd
      rw [List.getD_eq_getElem?_getD, List.getElem?_eq_getElem (by omega : a.toNat < l.length)]
      exact List.getElem_mem _
    have hb := hw _ hm
    have hb2 : 0 ≤ rd l a ∧ rd l a ≤ 255 := by
      generalize rd l a = y at hb
      simp [Lit.wf] at hb
      have m0 : IntKind.u8.min = 0 := rfl
      have m1 : IntKind.u8.max = 255 := rfl
      omega
    have e2 : wrap64 (rd l a) = rd l a := by unfold wrap64; omega
    exact ⟨_, _, rfl, by rw [e2]; exact hb2.1, by rw [e2]; exact hb2.2⟩
  · rw [if_neg h1]
    split
    · exact ⟨_, _, rfl, by omega, by omega⟩
    · obtain ⟨b, e, h0, h2⟩ := andB ((IntKind.u64.wrap ((IntKind.u64.wrap ((IntKind.u64.wrap (s * 6364136223846793005)))) + 1442695040888963407)) / 1099511627776)
      exact ⟨_, _, rfl, by rw [e]; exact h0, by rw [e]; exact h2⟩
theorem pick_some (l : List Int) (hl : l.length ≤ maxLen) (hw : ∀ y ∈ l, (Lit.int .u8 y).wf = true) (a s n : Int) (ha : 0 ≤ a ∧ a ≤ 4611686018427387000) (hn : 1 ≤ n ∧ n ≤ 1000) : ∃ x a' s', spec_l1Cur_pick.f l a s n = some (x, a', s') ∧ 0 ≤ x ∧ x < n ∧ a ≤ a' ∧ a' ≤ a + 2 := by
  unfold spec_l1Cur_pick.f
  by_cases h1 : n ≤ 1
  · rw [if_pos h1]
    exact ⟨0, a, s, rfl, by omega, by omega, by omega, by omega⟩
  · rw [if_neg h1]
    obtain ⟨b, s1, e1, b0, b1⟩ := next_some l hl hw a s (by omega)
    rw [e1]
    simp only [Option.bind_some]
    by_cases h2 : n > 200
    · rw [if_pos h2]
      obtain ⟨c, s2, e2, c0, c1⟩ := next_some l hl hw (a + 1) s1 (by omega)
      rw [e2]
      simp only [Option.bind_some]
      rw [if_neg (by omega)]
      have w1_ : wrap64 (b * 256) = b * 256 := by unfold wrap64; omega
      have w2_ : wrap64 (b * 256 + c) = b * 256 + c := by unfold wrap64; omega
      rw [w1_, w2_]
      exact ⟨_, _, _, rfl, Int.tmod_nonneg _ (by omega), Int.tmod_lt_of_pos _ (by omega), by omega, by omega⟩
    · rw [if_neg h2, if_neg (by omega)]
      exact ⟨_, _, _, rfl, Int.tmod_nonneg _ (by omega), Int.tmod_lt_of_pos _ (by omega), by omega, by omega⟩
theorem one_some (l : List Int) (hl : l.length ≤ maxLen) (hw : ∀ y ∈ l, (Lit.int .u8 y).wf = true) (a s n : Int) (ha : 0 ≤ a ∧ a ≤ 4611686018427387000) (hn : 1 ≤ n ∧ n ≤ 1000) : ∃ x a' s', spec_l1Cur_one.f l a s n = some (x, a', s') ∧ a ≤ a' ∧ a' ≤ a + 2 := by
  unfold spec_l1Cur_one.f
  obtain ⟨x, a', s', e, _, _, h1, h2⟩ := pick_some l hl hw a s n ha hn
  rw [e]
  exact ⟨_, _, _, rfl, h1, h2⟩
theorem size_some (l : List Int) (hl : l.length ≤ maxLen) (hw : ∀ y ∈ l, (Lit.int .u8 y).wf = true) (a s : Int) (ha : 0 ≤ a ∧ a ≤ 4611686018427386000) : ∃ x a' s', spec_l1Cur_size.f l a s = some (x, a', s') ∧ 0 ≤ x ∧ x ≤ 257 ∧ a ≤ a' ∧ a' ≤ a + 4 := by
  unfold spec_l1Cur_size.f spec_l1Cur_among.f
  obtain ⟨x, a1, s1, e, x0, x1, h1, h2⟩ := pick_some l hl hw a s 256 (by omega) (by omega)
  rw [e]
  simp only [Option.bind_some]
  have ew : wrap64 (1 + x) = 1 + x := by unfold wrap64; omega
  rw [ew]
  have el : (([0, 1, 8, 9, 100, 255, 256, 257, 1 + x] : List Int).length : Int) = 9 := rfl
  rw [el]
  obtain ⟨j, a2, s2, e2, j0, j1, h3, h4⟩ := pick_some l hl hw a1 s1 9 (by omega) (by omega)
  rw [e2]
  simp only [Option.bind_some, if_pos j0, if_pos j1]
  refine ⟨_, _, _, rfl, ?_, ?_, by omega, by omega⟩
  all_goals
    obtain ⟨i, rfl⟩ : ∃ i : Nat, j = i := ⟨j.toNat, by omega⟩
    have hi : i < 9 := by omega
    unfold rd
    rw [Int.toNat_natCast]
    match i, hi with
    | 0, _ => simp
    | 1, _ => simp
    | 2, _ => simp
    | 3, _ => simp
    | 4, _ => simp
    | 5, _ => simp
    | 6, _ => simp
    | 7, _ => simp
    | 8, _ =>
      simp
      omega
theorem l1In_no (a : Int) (h : ¬ (1 ≤ a ∧ a ≤ 256)) : spec_l1In.f a 1 256 = some false := by
  unfold spec_l1In.f
  by_cases h0 : a ≥ 1
  · rw [if_pos h0]
    simp only [Option.some.injEq, decide_eq_false_iff_not]
    omega
  · rw [if_neg h0]
theorem within_no (a : Int) (h : ¬ (1 ≤ a ∧ a ≤ 256)) : impl_within.f a 1 256 = some false := by
  unfold impl_within.f
  by_cases h0 : a ≥ 1
  · rw [if_pos h0]
    simp only [Option.some.injEq, decide_eq_false_iff_not]
    omega
  · rw [if_neg h0]
theorem within_yes (a : Int) (h : 1 ≤ a ∧ a ≤ 256) : impl_within.f a 1 256 = some true := by
  unfold impl_within.f
  rw [if_pos h.1]
  simp only [Option.some.injEq, decide_eq_true_eq]
  exact h.2

theorem draws_l0 (l : List Int) (hl : l.length ≤ maxLen) (hw : ∀ y ∈ l, (Lit.int .u8 y).wf = true) : ∀ (d k : Nat) (xs : List Int) (a s : Int), xs.length + d ≤ 41 → 0 ≤ a → a + 2 * d ≤ 1000 → d < k → ∃ ys, spec_DrawSumWaste.l0 k xs (d : Int) l a s = some ys ∧ ys.length ≤ 41 := by
  intro d
  induction d with
  | zero =>
    intro k xs a s hx ha hb hk
    obtain ⟨k, rfl⟩ : ∃ m, k = m + 1 := ⟨k - 1, by omega⟩
    simp only [spec_DrawSumWaste.l0]
    rw [if_neg (by omega)]
    by_cases h : (xs.length : Int) > 0
    · rw [if_pos h]
      obtain ⟨x, a', s', e, h1, h2⟩ := one_some l hl hw a s 12 (by omega) (by omega)
      rw [e]
      simp only [Option.bind_some]
      cases x with
      | true =>
        obtain ⟨z, a2, s2, e2, _⟩ := size_some l hl hw a' s' (by omega)
        simp only [if_true, e2, Option.bind_some, if_pos h]
        exact ⟨_, rfl, by rw [List.length_set]; omega⟩
      | false => exact ⟨xs, rfl, by omega⟩
    · rw [if_neg h]
      exact ⟨xs, rfl, by omega⟩
  | succ d ih =>
    intro k xs a s hx ha hb hk
    obtain ⟨k, rfl⟩ : ∃ m, k = m + 1 := ⟨k - 1, by omega⟩
    simp only [spec_DrawSumWaste.l0]
    rw [if_pos (by omega)]
    obtain ⟨x, a', s', e, x0, x1, h1, h2⟩ := pick_some l hl hw a s 256 (by omega) (by omega)
    rw [e]
    simp only [Option.bind_some]
    rw [if_pos (by omega)]
    have ed : wrap64 (((d + 1 : Nat) : Int) - 1) = (d : Int) := by unfold wrap64; omega
    rw [ed]
    exact ih k _ _ _ (by rw [List.length_append]; simp; omega) (by omega) (by omega) (by omega)
theorem draws_f (l : List Int) (hl : l.length ≤ maxLen) (hw : ∀ y ∈ l, (Lit.int .u8 y).wf = true) (k : Nat) (hk : 60 ≤ k) : ∃ ys, spec_DrawSumWaste.f k l = some ys ∧ ys.length ≤ 41 := by
  obtain ⟨k, rfl⟩ : ∃ m, k = m + 1 := ⟨k - 1, by omega⟩
  unfold spec_DrawSumWaste.f
  obtain ⟨x, a1, s1, e1, x0, x1, h1, h2⟩ := pick_some l hl hw 0 0 9 (by omega) (by omega)
  rw [e1]
  simp only [Option.bind_some]
  obtain ⟨y, a2, s2, e2, h3, h4⟩ := one_some l hl hw a1 s1 20 (by omega) (by omega)
  rw [e2]
  simp only [Option.bind_some]
  have hj : ∀ (n a s : Int), 0 ≤ n → n ≤ 41 → 0 ≤ a → a ≤ 20 → ∃ ys, spec_DrawSumWaste.j0 (k + 1) [] n l a s = some ys ∧ ys.length ≤ 41 := by
    intro n a s n0 n1 a0 a1
    simp only [spec_DrawSumWaste.j0]
    obtain ⟨m, rfl⟩ : ∃ m : Nat, n = m := ⟨n.toNat, by omega⟩
    exact draws_l0 l hl hw m k [] a s (by simp; omega) (by omega) (by omega) (by omega)
  cases y with
  | true =>
    obtain ⟨z, a3, s3, e3, z0, z1, h5, h6⟩ := pick_some l hl hw a2 s2 2 (by omega) (by omega)
    have ez : wrap64 (40 + z) = 40 + z := by unfold wrap64; omega
    simp only [if_true, e3, Option.bind_some, ez]
    exact hj _ _ _ (by omega) (by omega) (by omega) (by omega)
  | false =>
    rw [if_neg (by decide)]
    exact hj _ _ _ (by omega) (by omega) (by omega) (by omega)

/-- One size: the program's answers are the reference's, and no more than an eighth is wasted. -/
def okSize (s : Int) : Bool :=
  match spec_WasteOf.f 60 s, impl_classFor.f 60 s with
  | some (v, true), some (_, n) => v == n - s && decide (0 ≤ v) && decide (8 * v ≤ s) && wrap64 (n - s) == n - s
  | _, _ => false
theorem sizes_ok : ∀ m : Fin 256, okSize ((m.val + 1 : Nat) : Int) = true := by decide +kernel
theorem at_size (x : Int) (h : 1 ≤ x ∧ x ≤ 256) (k : Nat) (hk : 60 ≤ k) : ∃ c n, spec_WasteOf.f k x = some (n - x, true) ∧ impl_classFor.f k x = some (c, n) ∧ wrap64 (n - x) = n - x ∧ 0 ≤ n - x ∧ 8 * (n - x) ≤ x := by
  obtain ⟨s, rfl⟩ : ∃ s : Nat, x = ((s + 1 : Nat) : Int) := ⟨x.toNat - 1, by omega⟩
  have hs := sizes_ok ⟨s, by omega⟩
  simp only [okSize] at hs
  split at hs
  · rename_i v c n h1 h2
    simp only [Bool.and_eq_true, decide_eq_true_eq, beq_iff_eq] at hs
    obtain ⟨⟨⟨e, e0⟩, e1⟩, e2⟩ := hs
    subst e
    exact ⟨c, n, at_rounds (g := fun k => spec_WasteOf.f k ((s + 1 : Nat) : Int)) (fun k => spec_WasteOf.mono _ k) hk h1, at_rounds (g := fun k => impl_classFor.f k ((s + 1 : Nat) : Int)) (fun k => impl_classFor.mono _ k) hk h2, e2, e0, e1⟩
  · cases hs
theorem not_size (x : Int) (h : ¬ (1 ≤ x ∧ x ≤ 256)) (k : Nat) : spec_WasteOf.f k x = some (0, false) := by
  unfold spec_WasteOf.f spec_ClassFor.f
  rw [l1In_no x h]
  rfl
theorem isSize_no (x : Int) (h : ¬ (1 ≤ x ∧ x ≤ 256)) : impl_isSize.f x = some false := by
  unfold impl_isSize.f
  rw [within_no x h]
  rfl
theorem isSize_yes (x : Int) (h : 1 ≤ x ∧ x ≤ 256) : impl_isSize.f x = some true := by
  unfold impl_isSize.f
  rw [within_yes x h]
  rfl
theorem lockstep (l : List Int) (hl : l.length ≤ 41) : ∀ (d k i : Nat) (a b : Int), l.length = i + d → d + 60 < k → 0 ≤ a → 8 * a ≤ b → b ≤ 256 * i →
    ∃ r, spec_SumWaste.l0 k l a b l (l.length : Int) (i : Int) = some r ∧ (l.length ≤ 40 → impl_SumWaste.l0 k a b l (l.length : Int) (i : Int) = some r) ∧ (40 < l.length → r = (0, 0, false)) ∧ wrap64 (8 * r.1) ≤ r.2.1 := by
  intro d
  induction d with
  | zero =>
    intro k i a b hi hk h0 h8 hb
    obtain ⟨k, rfl⟩ : ∃ m, k = m + 1 := ⟨k - 1, by omega⟩
    have hn : ¬ ((i : Int) < (l.length : Int)) := by omega
    simp only [spec_SumWaste.l0, impl_SumWaste.l0, if_neg hn]
    have ew : wrap64 (8 * a) = 8 * a := by unfold wrap64; omega
    by_cases h : (l.length : Int) > 40
    · rw [if_pos h]
      exact ⟨_, rfl, fun h' => by omega, fun _ => rfl, by decide +kernel⟩
    · rw [if_neg h]
      exact ⟨_, rfl, fun h' => rfl, fun _ => by omega, by rw [ew]; exact h8⟩
  | succ d ih =>
    intro k i a b hi hk h0 h8 hb
    obtain ⟨k, rfl⟩ : ∃ m, k = m + 1 := ⟨k - 1, by omega⟩
    have hp : (i : Int) < (l.length : Int) := by omega
    have h00 : 0 ≤ (i : Int) := by omega
    simp only [spec_SumWaste.l0, impl_SumWaste.l0, if_pos hp, if_pos h00, w1 i (by omega)]
    by_cases h : 1 ≤ rd l (i : Int) ∧ rd l (i : Int) ≤ 256
    · obtain ⟨c, n, h1, h2, e, e0, e8⟩ := at_size _ h k (by omega)
      rw [h1, isSize_yes _ h]
      simp only [Option.bind_some, if_true]
      rw [h2]
      simp only [Option.bind_some]
      rw [e]
      have f1 : wrap64 (a + (n - rd l (i : Int))) = a + (n - rd l (i : Int)) := by unfold wrap64; omega
      have f2 : wrap64 (b + rd l (i : Int)) = b + rd l (i : Int) := by unfold wrap64; omega
      rw [f1, f2]
      exact ih k (i + 1) _ _ (by omega) (by omega) (by omega) (by omega) (by omega)
    · rw [not_size _ h, isSize_no _ h]
      exact ⟨_, rfl, fun _ => rfl, fun _ => rfl, by decide +kernel⟩
theorem sums (l : List Int) (hl : l.length ≤ 41) (k : Nat) (hk : l.length + 60 < k) : ∃ r, spec_SumWaste.f k l = some r ∧ impl_SumWaste.f k l = some r ∧ wrap64 (8 * r.1) ≤ r.2.1 := by
  obtain ⟨r, h1, h2, h3, h4⟩ := lockstep l hl l.length k 0 0 0 (by omega) (by omega) (by omega) (by omega) (by omega)
  refine ⟨r, h1, ?_, h4⟩
  unfold impl_SumWaste.f
  by_cases h : (l.length : Int) > 40
  · rw [if_pos h, h3 (by omega)]
  · rw [if_neg h]
    exact h2 (by omega)
theorem second (l : List Int) (hl : l.length ≤ maxLen) (hw : ∀ y ∈ l, (Lit.int .u8 y).wf = true) (k : Nat) (hk : 150 ≤ k) : laws_FnSizes.j0 k l false = some true := by
  obtain ⟨k, rfl⟩ : ∃ m, k = m + 1 := ⟨k - 1, by omega⟩
  simp only [laws_FnSizes.j0]
  rw [if_neg (by decide)]
  obtain ⟨ys, e, hy⟩ := draws_f l hl hw k (by omega)
  obtain ⟨r, h1, h2, h3⟩ := sums ys hy k (by omega)
  rw [e]
  simp only [Option.bind_some]
  rw [h1, h2]
  simp only [Option.bind_some, beq_self_eq_true, if_true, decide_eq_true h3]
  split <;> rfl

def classesL : List Int := [1, 2, 3, 4, 5, 6, 7, 8, 9, 10, 11, 12, 13, 14, 15, 16, 18, 20, 22, 24, 27, 30, 33, 37, 41, 46, 51, 57, 64, 72, 81, 91, 102, 114, 128, 144, 162, 182, 204, 229, 256]
theorem spec_classes : spec_ClassesOf.f 60 = some classesL := by decide +kernel
theorem impl_classes60 : impl_ClassesOf.f 60 = some classesL := by decide +kernel
theorem same_classes : laws_sameInts.f 60 classesL classesL = some true := by decide +kernel
/-- One drawn size: all five answers, and what the law asks of them. -/
def okDraw (c : Int) : Bool :=
  match impl_ClassFor.f 60 c, spec_ClassFor.f 60 c, impl_WasteOf.f 60 c, spec_WasteOf.f 60 c with
  | some (i, n, b), some (i2, n2, b2), some (w, v), some (w2, v2) =>
    decide (i2 = i) && decide (n2 = n) && decide (b2 = b) && decide (w2 = w) && decide (v2 = v) && decide (v = b) &&
    (!b || (decide (0 ≤ i) && decide (i < 41) && decide (rd classesL i = n) && decide (c ≤ n) && (decide (i = 0) || decide (rd classesL (i - 1) < c)) && decide (w = wrap64 (n - c)) && decide (wrap64 (8 * w) ≤ c)))
  | _, _, _, _ => false
theorem draws_ok : ∀ m : Fin 258, okDraw (m.val : Int) = true := by decide +kernel
theorem at_draw (c : Int) (h : 0 ≤ c ∧ c ≤ 257) (k : Nat) (hk : 60 ≤ k) : ∃ i n b w, impl_ClassFor.f k c = some (i, n, b) ∧ spec_ClassFor.f k c = some (i, n, b) ∧ impl_WasteOf.f k c = some (w, b) ∧ spec_WasteOf.f k c = some (w, b) ∧
    (b = true → 0 ≤ i ∧ i < 41 ∧ rd classesL i = n ∧ c ≤ n ∧ (i = 0 ∨ rd classesL (i - 1) < c) ∧ w = wrap64 (n - c) ∧ wrap64 (8 * w) ≤ c) := by
  obtain ⟨s, rfl⟩ : ∃ s : Nat, c = (s : Int) := ⟨c.toNat, by omega⟩
  have hs := draws_ok ⟨s, by omega⟩
  simp only [okDraw] at hs
  split at hs
  · rename_i i n b i2 n2 b2 w v w2 v2 e1 e2 e3 e4
    simp only [Bool.and_eq_true, Bool.or_eq_true, Bool.not_eq_true', decide_eq_true_eq] at hs
    obtain ⟨⟨⟨⟨⟨⟨q1, q2⟩, q3⟩, q4⟩, q5⟩, q6⟩, q7⟩ := hs
    subst q1 q2 q3 q4 q5 q6
    refine ⟨_, _, _, _, at_rounds (g := fun k => impl_ClassFor.f k (s : Int)) (fun k => impl_ClassFor.mono _ k) hk e1, at_rounds (g := fun k => spec_ClassFor.f k (s : Int)) (fun k => spec_ClassFor.mono _ k) hk e2, at_rounds (g := fun k => impl_WasteOf.f k (s : Int)) (fun k => impl_WasteOf.mono _ k) hk e3, at_rounds (g := fun k => spec_WasteOf.f k (s : Int)) (fun k => spec_WasteOf.mono _ k) hk e4, fun hb => ?_⟩
    rcases q7 with q7 | q7
    · rw [hb] at q7
      cases q7
    · obtain ⟨⟨⟨⟨⟨⟨p1, p2⟩, p3⟩, p4⟩, p5⟩, p6⟩, p7⟩ := q7
      exact ⟨p1, p2, p3, p4, p5, p6, p7⟩
  · cases hs
theorem FnSizes : laws_FnSizes.Pure := by
  intro l0 l1 hl0 hl1
  obtain ⟨k, hk⟩ : ∃ k : Nat, 200 ≤ k := ⟨200, Nat.le_refl _⟩
  refine ⟨k, ?_⟩
  have j := second l1 hl1.1 hl1.2 k (by omega)
  have c1 := at_rounds (g := fun k => spec_ClassesOf.f k) (fun k => spec_ClassesOf.mono k) (show 60 ≤ k by omega) spec_classes
  have c2 := at_rounds (g := fun k => impl_ClassesOf.f k) (fun k => impl_ClassesOf.mono k) (show 60 ≤ k by omega) impl_classes60
  have c3 := at_rounds (g := fun k => laws_sameInts.f k classesL classesL) (fun k => laws_sameInts.mono _ _ k) (show 60 ≤ k by omega) same_classes

  obtain ⟨c, a, s, e, z0, z1, _⟩ := size_some l0 hl0.1 hl0.2 0 0 (by omega)
  obtain ⟨i, n, b, w, h1, h2, h3, h4, h5⟩ := at_draw c (by omega) k (by omega)
  have hd : spec_DrawClassFor.f l0 = some c := by
    unfold spec_DrawClassFor.f
    rw [e]
    rfl
  have hlen : (classesL.length : Int) = 41 := by decide +kernel
  unfold laws_FnSizes.f
  by_cases h : wrap64 ((l0.length : Int) + (l1.length : Int)) > 1048576
  · rw [if_pos h]
  · rw [if_neg h, hd]
    simp only [Option.bind_some, h1, h2, h3, h4, c1, c2, c3, hlen, bne_self_eq_false, if_true]
    rw [if_neg (by decide), if_neg (by decide)]
    cases b with
    | false => exact j
    | true =>
      obtain ⟨p1, p2, p3, p4, p5, p6, p7⟩ := h5 rfl
      have jj : laws_FnSizes.j0 k l1 (decide (wrap64 (8 * w) > c)) = some true := by
        rw [decide_eq_false (by omega)]
        exact j
      simp only [if_true]
      rw [if_neg (by omega), if_pos p1, if_pos p2, if_pos p3, if_neg (by omega)]
      by_cases hi : i > 0
      · have ei : wrap64 (i - 1) = i - 1 := by unfold wrap64; omega
        rw [if_pos hi, ei, if_pos (by omega), if_pos (by omega), if_neg (by omega), if_pos p6]
        exact jj
      · rw [if_neg hi, if_pos p6]
        exact jj

end Go.Proofs.Ytjpdbgobabjpkaa.Pure
