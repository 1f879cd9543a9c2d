-- Written by a program of the session, a changed copy of the kit's print: not the kit's own print; Lean checks it.
import Derived.Test.YtclpnoimfdjnbaaQFnExactWordOfx0
import Derived.Test.YtclpnoimfdjnbaaQFnExactWordOfx1
namespace Go.Proofs.Ytclpnoimfdjnbaa.QFnExactWordOf
open Go.RowKit Go.Proofs.YtclpnoimfdjnbaaW.PrintWords Go.Proofs.YtclpnoimfdjnbaaW.PrintLast Go.Proofs.YtclpnoimfdjnbaaW.PrintMore
attribute [local go_sem] max2_int min2_int max_two min_two max_three min_three max_four min_four   -- for this text's walks alone
set_option linter.unusedVariables false
set_option linter.unusedSimpArgs false

/-! ### spec_l1Pages: function 30 -/
def spec_l1Pages.l0 : Nat → Int → Int → Option (Int)
  | 0, _, _ => none
  | k + 1, x3, x4 => if x4 < 8 then (if (wrap64 (x4 * 64)) ≥ x3 then (if x3 = 0 then (none) else (if (wrap64 (8 * (Int.tmod (wrap64 (x4 * 64)) x3))) ≤ (wrap64 (x4 * 64)) then (some x4) else (spec_l1Pages.l0 k x3 (wrap64 (x4 + 1))))) else (spec_l1Pages.l0 k x3 (wrap64 (x4 + 1)))) else (some 8)
def spec_l1Pages.f (k : Nat) (a0 : Int) : Option (Int) := (spec_ClassesOf.f k).bind fun t124 => (if 0 ≤ a0 then (if a0 < (t124.length : Int) then (spec_l1Pages.l0 k (rd t124 a0) 1) else (none)) else (none))
theorem spec_l1Pages.mono_l : ∀ k, (∀ y0 y1, LeO (spec_l1Pages.l0 k y0 y1) (spec_l1Pages.l0 (k + 1) y0 y1))
  | 0 => fun _ _ r h => by simp [spec_l1Pages.l0] at h
  | k + 1 => by
    have ih0 := spec_l1Pages.mono_l k
    · intro y0 y1
      unfold spec_l1Pages.l0
      repeat' first
      | (with_reducible exact ih0 _ _)
      | (with_reducible exact spec_ClassesOf.mono _)
      | (with_reducible exact LeO.refl _)
      | (with_reducible exact LeO.none _)
      | (with_reducible refine LeO.ite ?_ ?_)
      | (with_reducible refine LeO.bind ?_ (fun _ => ?_))
      | exact ih0 _ _
      | exact spec_ClassesOf.mono _
      | exact LeO.none _
      | refine LeO.ite ?_ ?_
      | refine LeO.bind ?_ (fun _ => ?_)
theorem spec_l1Pages.mono : ∀ a0 k, LeO (spec_l1Pages.f k a0) (spec_l1Pages.f (k + 1) a0) := by
  intro a0 k
  have ih0 := spec_l1Pages.mono_l k
  unfold spec_l1Pages.f
  repeat' first
      | (with_reducible exact ih0 _ _)
      | (with_reducible exact spec_ClassesOf.mono _)
      | (with_reducible exact LeO.refl _)
      | (with_reducible exact LeO.none _)
      | (with_reducible refine LeO.ite ?_ ?_)
      | (with_reducible refine LeO.bind ?_ (fun _ => ?_))
      | exact ih0 _ _
      | exact spec_ClassesOf.mono _
      | exact LeO.none _
      | refine LeO.ite ?_ ?_
      | refine LeO.bind ?_ (fun _ => ?_)
set_option maxHeartbeats 8000000 in
set_option maxRecDepth 100000 in
theorem spec_l1Pages.calls (k : Nat) (a0 : Int) (r : Int) (w : World) (h : spec_l1Pages.f k a0 = some r) :
    Calls Try.prog 30 #[.int .i64 a0] w fun e w' => e = .returned (.int .i64 r) ∧ Below w.heap.size w w' := by
  have HB := Aside0.mk (Below.refl w.heap.size w)
  have H : ((spec_ClassesOf.f k).bind fun t124 => (if 0 ≤ a0 then (if a0 < (t124.length : Int) then (spec_l1Pages.l0 k (rd t124 a0) 1) else (none)) else (none))) = some r := h
  clear h
  replace H := Option.bind_eq_some_iff.mp H
  obtain ⟨t124, A20, H⟩ := H
  replace H : (if 0 ≤ a0 then (if a0 < (t124.length : Int) then (spec_l1Pages.l0 k (rd t124 a0) 1) else (none)) else (none)) = some r := H
  have A2 := Aside0.mk A20
  clear A20
  by_cases c3 : 0 ≤ a0
  · rw [if_pos c3] at H
    have c3b0 : decide (0 ≤ a0) = true := decide_eq_true c3
    clear c3
    by_cases c4 : a0 < (t124.length : Int)
    · rw [if_pos c4] at H
      have c4b0 : decide (a0 < (t124.length : Int)) = true := decide_eq_true c4
      clear c4
      have H' := Aside0.mk H
      clear H
      go_enter Try.func30, Try.ntmps30
      go_wp2_with (first | ((with_reducible refine gate_callee (f := 20) rfl ?_); refine goesL_ (some 5) rfl rfl Try.func20 (by kernel_rfl) rfl #[] rfl (by (try simp only [List.map_toArray, List.map_cons, List.map_nil]); first | done | rfl | (simp only [List.length_drop, List.length_take]; rfl)) ?_; (with_reducible refine (spec_ClassesOf.calls k  t124 _ A2.out).mono ?_); rintro e w5 ⟨v125, rfl, ho0, hb⟩; refine ⟨_, rfl, ?_⟩; have n0_ := Aside0.mk (Kd.R_lower ho0 (below_size (by repeat (first | (with_reducible first | exact HB.out | apply below_alloc | apply pw_below_drewN | apply below_drew1) | exact HB.out)))); have n1_ := Aside0.mk (below_step (by repeat (first | (with_reducible first | exact HB.out | apply below_alloc | apply pw_below_drewN | apply below_drew1) | exact HB.out)) hb); clear HB; have HO126 := n0_; have HB := n1_; clear n0_ n1_; (try clear hb); (try clear hb2); (try clear hk); (try clear hi); (try clear ho0); obtain ⟨Ao6, co6, eo6⟩ := Kd.R_slice HO126.out; subst eo6; have p127 : 0 ≤ (a0 : Int) := of_decide_eq_true (by first | (with_reducible assumption) | assumption); have q127 : a0 < (t124.length : Int) := of_decide_eq_true (by first | (with_reducible assumption) | assumption); obtain ⟨ad127, e127, hx127_0⟩ := Kd.at_int (Kd.R_reads' HO126.out).2.2 a0 p127 q127; cases e127; replace p127 := eq_true p127; replace q127 := eq_true q127))
      go_loopg [4] k (fun kq v4 w' => ∃ (x4_1 : Int), v4 = .int .i64 x4_1 ∧ Aside0 (spec_l1Pages.l0 kq (rd t124 a0) x4_1 = some r) ∧ Aside0 (kq ≤ k) ∧ Aside0 (Below w.heap.size w w'))
      case atStart => exact ⟨(1), (by first | rfl | (simp; done) | (simp [*]; done)), H', ⟨Nat.le_refl _⟩, ⟨by repeat (first | (with_reducible first | exact HB.out | apply below_alloc | apply pw_below_drewN | apply below_drew1) | exact HB.out)⟩⟩
      case round =>
        clear H'
        try clear p1
        try clear q1
        try clear hx1
        try clear c2
        try clear p2
        try clear c3
        try clear c3b0
        try clear c4
        try clear c4b0
        try clear hx127_0
        try clear p127
        try clear q127
        obtain ⟨x4_1, rfl, HA, HK1, HB⟩ := hrel
        cases gk with
        | zero => exact absurd HA.out (by simp [spec_l1Pages.l0])
        | succ k1 =>
          have H := HA.out
          clear HA
          simp only [spec_l1Pages.l0] at H
          by_cases c7 : x4_1 < 8
          · rw [if_pos c7] at H
            have c7b0 : decide (x4_1 < 8) = true := decide_eq_true c7
            clear c7
            by_cases c8 : (wrap64 (x4_1 * 64)) ≥ (rd t124 a0)
            · rw [if_pos c8] at H
              have c8b0 : decide ((rd t124 a0) ≤ (wrap64 (x4_1 * 64))) = true := decide_eq_true c8
              clear c8
              by_cases c9 : (rd t124 a0) = 0
              · rw [if_pos c9] at H
                exact absurd H (by simp)
              · rw [if_neg c9] at H
                have c9b0 : ((rd t124 a0) == 0) = false := beq_eq_false_iff_ne.mpr c9
                have c9b1 : ((rd t124 a0) != 0) = true := bne_iff_ne.mpr c9
                by_cases c10 : (wrap64 (8 * (Int.tmod (wrap64 (x4_1 * 64)) (rd t124 a0)))) ≤ (wrap64 (x4_1 * 64))
                · rw [if_pos c10] at H
                  have c10b0 : decide ((wrap64 (8 * (Int.tmod (wrap64 (x4_1 * 64)) (rd t124 a0)))) ≤ (wrap64 (x4_1 * 64))) = true := decide_eq_true c10
                  clear c10
                  obtain rfl := Option.some.inj H
                  go_wp2
                  go_ret
                  exact ⟨by first | rfl | (simp [errW_none, errW_some] <;> rfl) | (simp [*, errW_none, errW_some] <;> rfl), by repeat (first | (with_reducible first | exact HB.out | apply below_alloc | apply pw_below_drewN | apply below_drew1) | exact HB.out)⟩
                · rw [if_neg c10] at H
                  have c10b0 : decide ((wrap64 (8 * (Int.tmod (wrap64 (x4_1 * 64)) (rd t124 a0)))) ≤ (wrap64 (x4_1 * 64))) = false := decide_eq_false c10
                  clear c10
                  have H' := Aside0.mk H
                  clear H
                  go_wp2
                  go_roundg k1
                  case measure => have := HK1.out; omega
                  case rel => exact ⟨(wrap64 (x4_1 + 1)), (by first | rfl | (simp; done) | (simp [*]; done)), H', ⟨by have := HK1.out; omega⟩, ⟨by repeat (first | (with_reducible first | exact HB.out | apply below_alloc | apply pw_below_drewN | apply below_drew1) | exact HB.out)⟩⟩
            · rw [if_neg c8] at H
              have c8b0 : decide ((rd t124 a0) ≤ (wrap64 (x4_1 * 64))) = false := decide_eq_false c8
              clear c8
              have H' := Aside0.mk H
              clear H
              go_wp2
              go_roundg k1
              case measure => have := HK1.out; omega
              case rel => exact ⟨(wrap64 (x4_1 + 1)), (by first | rfl | (simp; done) | (simp [*]; done)), H', ⟨by have := HK1.out; omega⟩, ⟨by repeat (first | (with_reducible first | exact HB.out | apply below_alloc | apply pw_below_drewN | apply below_drew1) | exact HB.out)⟩⟩
          · rw [if_neg c7] at H
            have c7b0 : decide (x4_1 < 8) = false := decide_eq_false c7
            clear c7
            obtain rfl := Option.some.inj H
            go_wp2
            go_ret
            exact ⟨by first | rfl | (simp [errW_none, errW_some] <;> rfl) | (simp [*, errW_none, errW_some] <;> rfl), by repeat (first | (with_reducible first | exact HB.out | apply below_alloc | apply pw_below_drewN | apply below_drew1) | exact HB.out)⟩
    · rw [if_neg c4] at H
      exact absurd H (by simp)
  · rw [if_neg c3] at H
    exact absurd H (by simp)

/-! ### spec_SlotsIn: function 35 -/
def spec_SlotsIn.f (k : Nat) (a0 : Int) : Option (Int × Bool) := (spec_l1Class.f k a0).bind fun t128 => (if t128 = true then ((spec_l1Pages.f k a0).bind fun t129 => ((spec_ClassesOf.f k).bind fun t130 => (if 0 ≤ a0 then (if a0 < (t130.length : Int) then (if (rd t130 a0) = 0 then (none) else (some (wrap64 (Int.tdiv (wrap64 (t129 * 64)) (rd t130 a0)), true))) else (none)) else (none)))) else (some (0, false)))
theorem spec_SlotsIn.mono : ∀ a0 k, LeO (spec_SlotsIn.f k a0) (spec_SlotsIn.f (k + 1) a0) := by
  intro a0 k
  unfold spec_SlotsIn.f
  repeat' first
      | (with_reducible exact spec_ClassesOf.mono _)
      | (with_reducible exact spec_l1Class.mono _ _)
      | (with_reducible exact spec_l1Pages.mono _ _)
      | (with_reducible exact LeO.refl _)
      | (with_reducible exact LeO.none _)
      | (with_reducible refine LeO.ite ?_ ?_)
      | (with_reducible refine LeO.bind ?_ (fun _ => ?_))
      | exact spec_ClassesOf.mono _
      | exact spec_l1Class.mono _ _
      | exact spec_l1Pages.mono _ _
      | exact LeO.none _
      | refine LeO.ite ?_ ?_
      | refine LeO.bind ?_ (fun _ => ?_)
set_option maxHeartbeats 8000000 in
set_option maxRecDepth 100000 in
theorem spec_SlotsIn.calls (k : Nat) (a0 : Int) (r1 : Int) (r2 : Bool) (w : World) (h : spec_SlotsIn.f k a0 = some (r1, r2)) :
    Calls Try.prog 35 #[.int .i64 a0] w fun e w' => e = .returned (.tuple #[.int .i64 r1, .bool r2]) ∧ Below w.heap.size w w' := by
  have HB := Aside0.mk (Below.refl w.heap.size w)
  have H : ((spec_l1Class.f k a0).bind fun t128 => (if t128 = true then ((spec_l1Pages.f k a0).bind fun t129 => ((spec_ClassesOf.f k).bind fun t130 => (if 0 ≤ a0 then (if a0 < (t130.length : Int) then (if (rd t130 a0) = 0 then (none) else (some (wrap64 (Int.tdiv (wrap64 (t129 * 64)) (rd t130 a0)), true))) else (none)) else (none)))) else (some (0, false)))) = some (r1, r2) := h
  clear h
  replace H := Option.bind_eq_some_iff.mp H
  obtain ⟨t128, A20, H⟩ := H
  replace H : (if t128 = true then ((spec_l1Pages.f k a0).bind fun t129 => ((spec_ClassesOf.f k).bind fun t130 => (if 0 ≤ a0 then (if a0 < (t130.length : Int) then (if (rd t130 a0) = 0 then (none) else (some (wrap64 (Int.tdiv (wrap64 (t129 * 64)) (rd t130 a0)), true))) else (none)) else (none)))) else (some (0, false))) = some (r1, r2) := H
  have A2 := Aside0.mk A20
  clear A20
  by_cases c3 : t128 = true
  · subst c3
    have H1 : ((spec_l1Pages.f k a0).bind fun t129 => ((spec_ClassesOf.f k).bind fun t130 => (if 0 ≤ a0 then (if a0 < (t130.length : Int) then (if (rd t130 a0) = 0 then (none) else (some (wrap64 (Int.tdiv (wrap64 (t129 * 64)) (rd t130 a0)), true))) else (none)) else (none)))) = some (r1, r2) := by rw [if_pos rfl] at H; exact H
    clear H
    have H := H1
    clear H1
    replace H := Option.bind_eq_some_iff.mp H
    obtain ⟨t129, A40, H⟩ := H
    replace H : ((spec_ClassesOf.f k).bind fun t130 => (if 0 ≤ a0 then (if a0 < (t130.length : Int) then (if (rd t130 a0) = 0 then (none) else (some (wrap64 (Int.tdiv (wrap64 (t129 * 64)) (rd t130 a0)), true))) else (none)) else (none))) = some (r1, r2) := H
    have A4 := Aside0.mk A40
    clear A40
    replace H := Option.bind_eq_some_iff.mp H
    obtain ⟨t130, A50, H⟩ := H
    replace H : (if 0 ≤ a0 then (if a0 < (t130.length : Int) then (if (rd t130 a0) = 0 then (none) else (some (wrap64 (Int.tdiv (wrap64 (t129 * 64)) (rd t130 a0)), true))) else (none)) else (none)) = some (r1, r2) := H
    have A5 := Aside0.mk A50
    clear A50
    by_cases c6 : 0 ≤ a0
    · rw [if_pos c6] at H
      have c6b0 : decide (0 ≤ a0) = true := decide_eq_true c6
      clear c6
      by_cases c7 : a0 < (t130.length : Int)
      · rw [if_pos c7] at H
        have c7b0 : decide (a0 < (t130.length : Int)) = true := decide_eq_true c7
        clear c7
        by_cases c8 : (rd t130 a0) = 0
        · rw [if_pos c8] at H
          exact absurd H (by simp)
        · rw [if_neg c8] at H
          have c8b0 : ((rd t130 a0) == 0) = false := beq_eq_false_iff_ne.mpr c8
          have c8b1 : ((rd t130 a0) != 0) = true := bne_iff_ne.mpr c8
          simp only [Option.some.injEq, Prod.mk.injEq] at H
          obtain ⟨rfl, rfl⟩ := H
          go_enter Try.func35, Try.ntmps35
          go_wp2_with (first | ((with_reducible refine gate_callee (f := 27) rfl ?_); refine goesL_ (some 5) rfl rfl Try.func27 (by kernel_rfl) rfl #[.int .i64 a0] rfl (by (try simp only [List.map_toArray, List.map_cons, List.map_nil]); first | done | rfl | (simp only [List.length_drop, List.length_take]; rfl)) ?_; (with_reducible refine (spec_l1Class.calls k a0 true _ A2.out).mono ?_); rintro e w9 ⟨rfl, hb⟩; refine ⟨_, rfl, ?_⟩; have n0_ := Aside0.mk (below_step (by repeat (first | (with_reducible first | exact HB.out | apply below_alloc | apply pw_below_drewN | apply below_drew1) | exact HB.out)) hb); clear HB; have HB := n0_; clear n0_; (try clear hb); (try clear hb2); (try clear hk); (try clear hi)) | ((with_reducible refine gate_callee (f := 30) rfl ?_); refine goesL_ (some 8) rfl rfl Try.func30 (by kernel_rfl) rfl #[.int .i64 a0] rfl (by (try simp only [List.map_toArray, List.map_cons, List.map_nil]); first | done | rfl | (simp only [List.length_drop, List.length_take]; rfl)) ?_; (with_reducible refine (spec_l1Pages.calls k a0 t129 _ A4.out).mono ?_); rintro e w10 ⟨rfl, hb⟩; refine ⟨_, rfl, ?_⟩; have n0_ := Aside0.mk (below_step (by repeat (first | (with_reducible first | exact HB.out | apply below_alloc | apply pw_below_drewN | apply below_drew1) | exact HB.out)) hb); clear HB; have HB := n0_; clear n0_; (try clear hb); (try clear hb2); (try clear hk); (try clear hi)) | ((with_reducible refine gate_callee (f := 20) rfl ?_); refine goesL_ (some 10) rfl rfl Try.func20 (by kernel_rfl) rfl #[] rfl (by (try simp only [List.map_toArray, List.map_cons, List.map_nil]); first | done | rfl | (simp only [List.length_drop, List.length_take]; rfl)) ?_; (with_reducible refine (spec_ClassesOf.calls k  t130 _ A5.out).mono ?_); rintro e w11 ⟨v131, rfl, ho0, hb⟩; refine ⟨_, rfl, ?_⟩; have n0_ := Aside0.mk (Kd.R_lower ho0 (below_size (by repeat (first | (with_reducible first | exact HB.out | apply below_alloc | apply pw_below_drewN | apply below_drew1) | exact HB.out)))); have n1_ := Aside0.mk (below_step (by repeat (first | (with_reducible first | exact HB.out | apply below_alloc | apply pw_below_drewN | apply below_drew1) | exact HB.out)) hb); clear HB; have HO132 := n0_; have HB := n1_; clear n0_ n1_; (try clear hb); (try clear hb2); (try clear hk); (try clear hi); (try clear ho0); obtain ⟨Ao12, co12, eo12⟩ := Kd.R_slice HO132.out; subst eo12; have p133 : 0 ≤ (a0 : Int) := of_decide_eq_true (by first | (with_reducible assumption) | assumption); have q133 : a0 < (t130.length : Int) := of_decide_eq_true (by first | (with_reducible assumption) | assumption); obtain ⟨ad133, e133, hx133_0⟩ := Kd.at_int (Kd.R_reads' HO132.out).2.2 a0 p133 q133; cases e133; replace p133 := eq_true p133; replace q133 := eq_true q133))
          go_ret2
          exact ⟨by first | rfl | (simp [errW_none, errW_some] <;> rfl) | (simp [*, errW_none, errW_some] <;> rfl), by repeat (first | (with_reducible first | exact HB.out | apply below_alloc | apply pw_below_drewN | apply below_drew1) | exact HB.out)⟩
      · rw [if_neg c7] at H
        exact absurd H (by simp)
    · rw [if_neg c6] at H
      exact absurd H (by simp)
  · replace c3 := Bool.eq_false_iff.mpr c3
    subst c3
    have H1 : (some (0, false)) = some (r1, r2) := by rw [if_neg (show ¬ (false = true) by decide)] at H; exact H
    clear H
    have H := H1
    clear H1
    simp only [Option.some.injEq, Prod.mk.injEq] at H
    obtain ⟨rfl, rfl⟩ := H
    go_enter Try.func35, Try.ntmps35
    go_wp2_with (first | ((with_reducible refine gate_callee (f := 27) rfl ?_); refine goesL_ (some 5) rfl rfl Try.func27 (by kernel_rfl) rfl #[.int .i64 a0] rfl (by (try simp only [List.map_toArray, List.map_cons, List.map_nil]); first | done | rfl | (simp only [List.length_drop, List.length_take]; rfl)) ?_; (with_reducible refine (spec_l1Class.calls k a0 false _ A2.out).mono ?_); rintro e w13 ⟨rfl, hb⟩; refine ⟨_, rfl, ?_⟩; have n0_ := Aside0.mk (below_step (by repeat (first | (with_reducible first | exact HB.out | apply below_alloc | apply pw_below_drewN | apply below_drew1) | exact HB.out)) hb); clear HB; have HB := n0_; clear n0_; (try clear hb); (try clear hb2); (try clear hk); (try clear hi)))
    go_ret2
    exact ⟨by first | rfl | (simp [errW_none, errW_some] <;> rfl) | (simp [*, errW_none, errW_some] <;> rfl), by repeat (first | (with_reducible first | exact HB.out | apply below_alloc | apply pw_below_drewN | apply below_drew1) | exact HB.out)⟩

/-! ### spec_l4Slots: function 29 -/
def spec_l4Slots.f (k : Nat) (a0 : Int) : Option (Int) := (spec_SlotsIn.f k a0).bind fun bt134 => (some bt134.1)
theorem spec_l4Slots.mono : ∀ a0 k, LeO (spec_l4Slots.f k a0) (spec_l4Slots.f (k + 1) a0) := by
  intro a0 k
  unfold spec_l4Slots.f
  repeat' first
      | (with_reducible exact spec_SlotsIn.mono _ _)
      | (with_reducible exact LeO.refl _)
      | (with_reducible exact LeO.none _)
      | (with_reducible refine LeO.ite ?_ ?_)
      | (with_reducible refine LeO.bind ?_ (fun _ => ?_))
      | exact spec_SlotsIn.mono _ _
      | exact LeO.none _
      | refine LeO.ite ?_ ?_
      | refine LeO.bind ?_ (fun _ => ?_)
set_option maxHeartbeats 8000000 in
set_option maxRecDepth 100000 in
theorem spec_l4Slots.calls (k : Nat) (a0 : Int) (r : Int) (w : World) (h : spec_l4Slots.f k a0 = some r) :
    Calls Try.prog 29 #[.int .i64 a0] w fun e w' => e = .returned (.int .i64 r) ∧ Below w.heap.size w w' := by
  have HB := Aside0.mk (Below.refl w.heap.size w)
  have H : ((spec_SlotsIn.f k a0).bind fun bt134 => (some bt134.1)) = some r := h
  clear h
  replace H := Option.bind_eq_some_iff.mp H
  obtain ⟨⟨t134, t135⟩, A20, H⟩ := H
  replace H : (some t134) = some r := H
  have A2 := Aside0.mk A20
  clear A20
  obtain rfl := Option.some.inj H
  go_enter Try.func29, Try.ntmps29
  go_wp2_with (first | ((with_reducible refine gate_callee (f := 35) rfl ?_); refine goesL_ (some 7) rfl rfl Try.func35 (by kernel_rfl) rfl #[.int .i64 a0] rfl (by (try simp only [List.map_toArray, List.map_cons, List.map_nil]); first | done | rfl | (simp only [List.length_drop, List.length_take]; rfl)) ?_; (with_reducible refine (spec_SlotsIn.calls k a0 t134 t135 _ A2.out).mono ?_); rintro e w3 ⟨rfl, hb⟩; refine ⟨_, rfl, ?_⟩; have n0_ := Aside0.mk (below_step (by repeat (first | (with_reducible first | exact HB.out | apply below_alloc | apply pw_below_drewN | apply below_drew1) | exact HB.out)) hb); clear HB; have HB := n0_; clear n0_; (try clear hb); (try clear hb2); (try clear hk); (try clear hi)))
  go_ret
  exact ⟨by first | rfl | (simp [errW_none, errW_some] <;> rfl) | (simp [*, errW_none, errW_some] <;> rfl), by repeat (first | (with_reducible first | exact HB.out | apply below_alloc | apply pw_below_drewN | apply below_drew1) | exact HB.out)⟩

end Go.Proofs.Ytclpnoimfdjnbaa.QFnExactWordOf
