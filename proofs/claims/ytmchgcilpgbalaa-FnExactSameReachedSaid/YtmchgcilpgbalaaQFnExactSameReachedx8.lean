-- Written by a program of the session, a changed copy of the kit's print: not the kit's own print; Lean checks it.
import Derived.Test.YtmchgcilpgbalaaQFnExactSameReachedx0
import Derived.Test.YtmchgcilpgbalaaQFnExactSameReachedx7
namespace Go.Proofs.Ytmchgcilpgbalaa.QFnExactSameReached
open Go.RowKit Go.Proofs.YtmchgcilpgbalaaW.PrintWords Go.Proofs.YtmchgcilpgbalaaW.PrintLast Go.Proofs.YtmchgcilpgbalaaW.PrintMore
attribute [local go_sem] max2_int min2_int max_two min_two max_three min_three max_four min_four   -- for this text's walks alone
set_option linter.unusedVariables false
set_option linter.unusedSimpArgs false

/-! ### impl_Heap_reach_nil: function 51 -/
def impl_Heap_reach_nil.l0 : Nat → List Bool → List Int → List (List Int) → List Bool → List Int → Option (List Bool)
  | 0, _, _, _, _, _ => none
  | k + 1, x7, x8, x227000, x227001, x227002 => if (x8.length : Int) > 0 then (if 0 ≤ (wrap64 ((x8.length : Int) - 1)) then (if (wrap64 ((x8.length : Int) - 1)) < (x8.length : Int) then (if (wrap64 ((x8.length : Int) - 1)) ≤ (x8.length : Int) then ((some (x8.take ((wrap64 ((x8.length : Int) - 1)) : Int).toNat : List Int)).bind fun y234 => (if (rd x8 (wrap64 ((x8.length : Int) - 1))) < 0 then (impl_Heap_reach_nil.l0 k x7 y234 x227000 x227001 x227002) else (if 0 ≤ (rd x8 (wrap64 ((x8.length : Int) - 1))) then (if (rd x8 (wrap64 ((x8.length : Int) - 1))) < (x7.length : Int) then (if rdOf false x7 (rd x8 (wrap64 ((x8.length : Int) - 1))) = true then (impl_Heap_reach_nil.l0 k x7 y234 x227000 x227001 x227002) else (if (rd x8 (wrap64 ((x8.length : Int) - 1))) < (x227000.length : Int) then (if y234.length + (rd_L1 x227000 (rd x8 (wrap64 ((x8.length : Int) - 1)))).length < 17592186044416 then (impl_Heap_reach_nil.l0 k (x7.set ((rd x8 (wrap64 ((x8.length : Int) - 1))) : Int).toNat true) (y234 ++ (rd_L1 x227000 (rd x8 (wrap64 ((x8.length : Int) - 1))))) x227000 x227001 x227002) else (none)) else (none))) else (none)) else (none)))) else (none)) else (none)) else (none)) else (some x7)
def impl_Heap_reach_nil.f (k : Nat) (l0_0 : List (List Int)) (l0_1 : List Bool) (l0_2 : List Int) (l1 : List Int) (l2 : List Bool) : Option (List Bool) := if 0 ≤ (l0_0.length : Int) then (if ((l0_0.length : Int) : Int).toNat ≤ 281474976710656 then ((slices_Clone_int_int.f l1).bind fun t230 => (impl_Heap_reach_nil.l0 k (List.replicate ((l0_0.length : Int) : Int).toNat false) t230 l0_0 l0_1 l0_2)) else (none)) else (none)
theorem impl_Heap_reach_nil.mono_l : ∀ k, (∀ y0 y1 y2 y3 y4, LeO (impl_Heap_reach_nil.l0 k y0 y1 y2 y3 y4) (impl_Heap_reach_nil.l0 (k + 1) y0 y1 y2 y3 y4))
  | 0 => fun _ _ _ _ _ r h => by simp [impl_Heap_reach_nil.l0] at h
  | k + 1 => by
    have ih0 := impl_Heap_reach_nil.mono_l k
    · intro y0 y1 y2 y3 y4
      unfold impl_Heap_reach_nil.l0
      repeat' first
      | (with_reducible exact ih0 _ _ _ _ _)
      | (with_reducible exact LeO.refl _)
      | (with_reducible exact LeO.none _)
      | (with_reducible refine LeO.ite ?_ ?_)
      | (with_reducible refine LeO.bind ?_ (fun _ => ?_))
      | exact ih0 _ _ _ _ _
      | exact LeO.none _
      | refine LeO.ite ?_ ?_
      | refine LeO.bind ?_ (fun _ => ?_)
theorem impl_Heap_reach_nil.mono : ∀ a0 a1 a2 a3 a4 k, LeO (impl_Heap_reach_nil.f k a0 a1 a2 a3 a4) (impl_Heap_reach_nil.f (k + 1) a0 a1 a2 a3 a4) := by
  intro a0 a1 a2 a3 a4 k
  have ih0 := impl_Heap_reach_nil.mono_l k
  unfold impl_Heap_reach_nil.f
  repeat' first
      | (with_reducible exact ih0 _ _ _ _ _)
      | (with_reducible exact LeO.refl _)
      | (with_reducible exact LeO.none _)
      | (with_reducible refine LeO.ite ?_ ?_)
      | (with_reducible refine LeO.bind ?_ (fun _ => ?_))
      | exact ih0 _ _ _ _ _
      | exact LeO.none _
      | refine LeO.ite ?_ ?_
      | refine LeO.bind ?_ (fun _ => ?_)
set_option maxHeartbeats 8000000 in
set_option maxRecDepth 100000 in
theorem impl_Heap_reach_nil.calls (k : Nat) (A0_0 : Option Addr) (c0_0 : Nat) (l0_0 : List (List Int)) (A0_1 : Option Addr) (c0_1 : Nat) (l0_1 : List Bool) (A0_2 : Option Addr) (c0_2 : Nat) (l0_2 : List Int) (A1 : Option Addr) (c1 : Nat) (l1 : List Int) (A2 : Option Addr) (c2 : Nat) (l2 : List Bool) (r : List Bool) (w : World) (hr0_0 : Kd.C (Kd.slice 3 (Kd.int .i64)) w A0_0 l0_0.length l0_0) (hc0_0 : l0_0.length ≤ c0_0) (hr0_1 : Kd.C Kd.bool w A0_1 l0_1.length l0_1) (hc0_1 : l0_1.length ≤ c0_1) (hr0_2 : Kd.C (Kd.int .i64) w A0_2 l0_2.length l0_2) (hc0_2 : l0_2.length ≤ c0_2) (hr1 : Kd.C (Kd.int .i64) w A1 l1.length l1) (hc1 : l1.length ≤ c1) (hr2 : Kd.C Kd.bool w A2 l2.length l2) (hc2 : l2.length ≤ c2) (h : impl_Heap_reach_nil.f k l0_0 l0_1 l0_2 l1 l2 = some r) :
    Calls Try.prog 51 #[.agg #[.slice A0_0 l0_0.length c0_0, .slice A0_1 l0_1.length c0_1, .slice A0_2 l0_2.length c0_2], .slice A1 l1.length c1, .slice none 0 0] w fun e w' => ∃ v0_ : Value, e = .returned (v0_) ∧ Kd.R Kd.bool 4 w' w.heap.size (fun _ => True) v0_ r ∧ Below w.heap.size w w' := by
  have hu30 := Try.underlying30
  have hq_ : ∀ W : World, (binOp .neq 23 (.slice none 0 0) (.slice none 0 0)).run Try.prog W = .ok (.bool false) W := fun W => run_neq_nil W 23 4 none 0 0 Try.underlying23
  have HR0_0 := Aside0.mk hr0_0
  have HC0_0 := Aside0.mk hc0_0
  clear hr0_0 hc0_0
  have HR0_1 := Aside0.mk hr0_1
  have HC0_1 := Aside0.mk hc0_1
  clear hr0_1 hc0_1
  have HR0_2 := Aside0.mk hr0_2
  have HC0_2 := Aside0.mk hc0_2
  clear hr0_2 hc0_2
  have HR1 := Aside0.mk hr1
  have HC1 := Aside0.mk hc1
  clear hr1 hc1
  have HR2 := Aside0.mk hr2
  have HC2 := Aside0.mk hc2
  clear hr2 hc2
  have HB := Aside0.mk (Below.refl w.heap.size w)
  have H : (if 0 ≤ (l0_0.length : Int) then (if ((l0_0.length : Int) : Int).toNat ≤ 281474976710656 then ((slices_Clone_int_int.f l1).bind fun t230 => (impl_Heap_reach_nil.l0 k (List.replicate ((l0_0.length : Int) : Int).toNat false) t230 l0_0 l0_1 l0_2)) else (none)) else (none)) = some r := h
  clear h
  by_cases c4 : 0 ≤ (l0_0.length : Int)
  · rw [if_pos c4] at H
    have c4b0 := eq_true c4
    have c4b1 : decide (0 ≤ (l0_0.length : Int)) = true := decide_eq_true c4
    clear c4
    by_cases c5 : ((l0_0.length : Int) : Int).toNat ≤ 281474976710656
    · rw [if_pos c5] at H
      have c5b0 := eq_true c5
      have c5b1 : decide (((l0_0.length : Int) : Int).toNat ≤ 281474976710656) = true := decide_eq_true c5
      clear c5
      obtain ⟨y227, hy227⟩ : ∃ y_ : List Bool, y_ = (List.replicate ((l0_0.length : Int) : Int).toNat false) := ⟨_, rfl⟩
      replace H : ((slices_Clone_int_int.f l1).bind fun t230 => (impl_Heap_reach_nil.l0 k y227 t230 l0_0 l0_1 l0_2)) = some r := by first | (rw [hy227]; with_reducible exact H) | (have H2_ := (Option.bind_some _ _).symm.trans H; rw [hy227]; with_reducible exact H2_) | (have H2_ := (Option.bind_some _ _).symm.trans H; with_reducible exact H2_) | with_reducible exact H | (rw [hy227]; exact H) | exact H
      have Ny227 := Aside0.mk hy227
      clear hy227
      replace H := Option.bind_eq_some_iff.mp H
      obtain ⟨t230, A60, H⟩ := H
      replace H : (impl_Heap_reach_nil.l0 k y227 t230 l0_0 l0_1 l0_2) = some r := H
      have A6 := Aside0.mk A60
      clear A60
      have H' := Aside0.mk H
      clear H
      go_enter Try.func51, Try.ntmps51
      go_wp2_with (first | ((with_reducible refine gate_dst (N := 3) rfl ?_); refine box_event ?hg (N := 3) ?hd (cs := #[.slice A0_0 l0_0.length c0_0, .slice A0_1 l0_1.length c0_1, .slice A0_2 l0_2.length c0_2]) (t := 30) ?hr ?_; (case hd => rfl); (case hg => rfl); (case hr => first | (go_simp; done) | (go_simp; rfl)); intro gb226 hg w7 hbox hb; have n0_ := Aside0.mk (below_step (by repeat (first | (with_reducible first | exact HB.out | apply below_alloc | apply pw_below_drewN | apply below_drew1) | exact HB.out)) hb); have n1_ := Aside0.mk (hbox); have n2_ := Aside0.mk ((by rw [hg]; exact (below_size (by repeat (first | (with_reducible first | exact HB.out | apply below_alloc | apply pw_below_drewN | apply below_drew1) | exact HB.out))) : w.heap.size ≤ gb226)); have n3_ := Aside0.mk ((by rw [hg]; exact (below_size (by repeat (first | (with_reducible first | exact HB.out | apply below_alloc | apply pw_below_drewN | apply below_drew1) | exact HB.out))) : w.heap.size ≤ gb226)); clear HB; have HB := n0_; have BK226 := n1_; have GW226 := n2_; have GE226 := n3_; clear n0_ n1_ n2_ n3_; clear hb hbox hg; have hcz8_0 : w7.cell? ⟨gb226, 0, none⟩ = some (.slice A0_0 l0_0.length c0_0) := (blk_cell BK226.out 0).trans rfl; have hcz8_1 : w7.cell? ⟨gb226, 1, none⟩ = some (.slice A0_1 l0_1.length c0_1) := (blk_cell BK226.out 1).trans rfl; have hcz8_2 : w7.cell? ⟨gb226, 2, none⟩ = some (.slice A0_2 l0_2.length c0_2) := (blk_cell BK226.out 2).trans rfl; have hfz8_0 := blk_frozen BK226.out 0; have hfz8_1 := blk_frozen BK226.out 1; have hfz8_2 := blk_frozen BK226.out 2) | ((with_reducible refine gate_dst (N := 13) rfl ?_); refine Kd.R_make Kd.bool _ 4 rfl (N := 13) rfl 23 _ _ rfl (l0_0.length : Int) rfl rfl Try.underlying23 (.bool false) 1 info4 rfl (by decide) (by omega) false (ok := fun _ => True) (okp := fun _ => True) rfl (fun _ hk => hk) trivial (of_decide_eq_true (by first | (with_reducible assumption) | assumption)) (Nat.le_trans (Nat.mul_le_mul_right _ (of_decide_eq_true (by first | (with_reducible assumption) | assumption) : (l0_0.length : Int).toNat ≤ 281474976710656)) (by omega)) (Below.refl _ _) (Nat.le_refl _) ?_; intro v228 w9 ho10 hb hg_ hnew_; clear hg_ hnew_; (first | rw [← Ny227.out] at ho10 | (simp only [Int.reduceToNat] at ho10; rw [← Ny227.out] at ho10)); have n0_ := Aside0.mk (Kd.R_lower ho10 (below_size (by repeat (first | (with_reducible first | exact HB.out | apply below_alloc | apply pw_below_drewN | apply below_drew1 | refine below_set ?_ GE226.out) | exact HB.out)))); have n1_ := Aside0.mk (blk_below (g := gb226) (o := .cells #[.slice A0_0 l0_0.length c0_0, .slice A0_1 l0_1.length c0_1, .slice A0_2 l0_2.length c0_2] 30 (0, 0)) (by first | with_reducible exact BK226.out | with_reducible exact blk_drewN BK226.out _ | ((with_reducible repeat (first | refine blk_drewN ?_ _ | refine blk_drew ?_ | refine blk_alloc ?_ _)); exact BK226.out)) hb); have n2_ := Aside0.mk (below_step (by repeat (first | (with_reducible first | exact HB.out | apply below_alloc | apply pw_below_drewN | apply below_drew1 | refine below_set ?_ GE226.out) | exact HB.out)) hb); clear BK226; clear HB; have HO229 := n0_; have BK226 := n1_; have HB := n2_; clear n0_ n1_ n2_; clear hb ho10) | ((with_reducible refine gate_callee (f := 61) rfl ?_); refine goesL_ (some 15) rfl rfl Try.func61 (by kernel_rfl) rfl #[.slice A1 l1.length c1] rfl (by (try simp only [List.map_toArray, List.map_cons, List.map_nil]); first | done | rfl | (simp only [List.length_drop, List.length_take]; rfl)) ?_; (with_reducible refine (slices_Clone_int_int.calls _ _ l1 t230 _ ?side1 ?side2 A6.out).mono ?_); (case side1 => repeat (first | exact (Kd.C_below HR1.out HB.out) | (with_reducible refine Kd.C_alloc ?_ _) | (with_reducible refine Kd.C_drewN ?_ _) | (with_reducible refine Kd.C_drew ?_))); (case side2 => exact HC1.out); rintro e w11 ⟨v231, rfl, ho0, hb⟩; refine ⟨_, rfl, ?_⟩; have n0_ := Aside0.mk (Kd.R_below (by (with_reducible repeat (first | apply Kd.R_alloc | apply Kd.R_drewN | apply Kd.R_drew)); exact HO229.out) hb); have n1_ := Aside0.mk (Kd.R_lower ho0 (below_size (by repeat (first | (with_reducible first | exact HB.out | apply below_alloc | apply pw_below_drewN | apply below_drew1 | refine below_set ?_ GE226.out) | exact HB.out)))); have n2_ := Aside0.mk (blk_below (g := gb226) (o := .cells #[.slice A0_0 l0_0.length c0_0, .slice A0_1 l0_1.length c0_1, .slice A0_2 l0_2.length c0_2] 30 (0, 0)) (by first | with_reducible exact BK226.out | with_reducible exact blk_drewN BK226.out _ | ((with_reducible repeat (first | refine blk_drewN ?_ _ | refine blk_drew ?_ | refine blk_alloc ?_ _)); exact BK226.out)) hb); have n3_ := Aside0.mk (below_step (by repeat (first | (with_reducible first | exact HB.out | apply below_alloc | apply pw_below_drewN | apply below_drew1 | refine below_set ?_ GE226.out) | exact HB.out)) hb); clear HO229; clear BK226; clear HB; have HO229 := n0_; have HO232 := n1_; have BK226 := n2_; have HB := n3_; clear n0_ n1_ n2_ n3_; (try clear hb); (try clear hb2); (try clear hk); (try clear hi); (try clear ho0)))
      go_loopg [8] k (fun kq v8 w' => ∃ (x7_1 : List Bool) (x8_1 : List Int), Aside0 (impl_Heap_reach_nil.l0 kq x7_1 x8_1 l0_0 l0_1 l0_2 = some r) ∧ Aside0 (kq ≤ k) ∧ Aside0 (Kd.R Kd.bool 4 w' w.heap.size (fun _ => True) v228 x7_1) ∧ Aside0 (Kd.R (Kd.int .i64) 3 w' w.heap.size (fun _ => True) v8 x8_1) ∧ Aside0 (w'.heap[gb226]? = some (.cells #[(.slice A0_0 l0_0.length c0_0), (.slice A0_1 l0_1.length c0_1), (.slice A0_2 l0_2.length c0_2)] 30 (0, 0))) ∧ Aside0 (Below w.heap.size w w'))
      case atStart => exact ⟨(y227), (t230), H', ⟨Nat.le_refl _⟩, ⟨by (with_reducible repeat (first | apply Kd.R_alloc | apply Kd.R_drewN | apply Kd.R_drew)); exact HO229.out⟩, ⟨by (with_reducible repeat (first | apply Kd.R_alloc | apply Kd.R_drewN | apply Kd.R_drew)); exact HO232.out⟩, ⟨by first | with_reducible exact BK226.out | with_reducible exact blk_drewN BK226.out _ | ((with_reducible repeat (first | refine blk_drewN ?_ _ | refine blk_drew ?_ | refine blk_alloc ?_ _)); exact BK226.out)⟩, ⟨by repeat (first | (with_reducible first | exact HB.out | apply below_alloc | apply pw_below_drewN | apply below_drew1 | refine below_set ?_ GE226.out) | exact HB.out)⟩⟩
      case round =>
        clear H'
        try clear c1
        try clear c2
        try clear p2
        try clear c4
        try clear c4b0
        try clear c4b1
        try clear c5
        try clear c5b0
        try clear c5b1
        try clear c6
        try clear hcz8_0
        try clear hcz8_1
        try clear hcz8_2
        try clear hfz8_0
        try clear hfz8_1
        try clear hfz8_2
        obtain ⟨x7_1, x8_1, HA, HK1, HO_7, HO_8, BK226, HB⟩ := hrel
        cases gk with
        | zero => exact absurd HA.out (by simp [impl_Heap_reach_nil.l0])
        | succ k1 =>
          have H := HA.out
          clear HA
          simp only [impl_Heap_reach_nil.l0] at H
          by_cases c12 : (x8_1.length : Int) > 0
          · rw [if_pos c12] at H
            have c12b0 : decide (0 < (x8_1.length : Int)) = true := decide_eq_true c12
            have c12b1 : decide (0 < x8_1.length) = true := decide_eq_true (by omega)
            clear c12
            obtain ⟨ji13, hji13⟩ : ∃ j_ : Int, (wrap64 ((x8_1.length : Int) - 1)) = j_ := ⟨_, rfl⟩
            replace H : (if 0 ≤ (ji13) then (if (ji13) < (x8_1.length : Int) then (if (ji13) ≤ (x8_1.length : Int) then ((some (x8_1.take ((ji13) : Int).toNat : List Int)).bind fun y234 => (if (rd x8_1 (ji13)) < 0 then (impl_Heap_reach_nil.l0 k1 x7_1 y234 l0_0 l0_1 l0_2) else (if 0 ≤ (rd x8_1 (ji13)) then (if (rd x8_1 (ji13)) < (x7_1.length : Int) then (if rdOf false x7_1 (rd x8_1 (ji13)) = true then (impl_Heap_reach_nil.l0 k1 x7_1 y234 l0_0 l0_1 l0_2) else (if (rd x8_1 (ji13)) < (l0_0.length : Int) then (if y234.length + (rd_L1 l0_0 (rd x8_1 (ji13))).length < 17592186044416 then (impl_Heap_reach_nil.l0 k1 (x7_1.set ((rd x8_1 (ji13)) : Int).toNat true) (y234 ++ (rd_L1 l0_0 (rd x8_1 (ji13)))) l0_0 l0_1 l0_2) else (none)) else (none))) else (none)) else (none)))) else (none)) else (none)) else (none)) = some r := by first | (rw [hji13] at H; exact H) | (simp only [hji13] at H ⊢; exact H)
            have hji13w : (IntKind.i64.wrap ((x8_1.length : Int) - 1)) = ji13 := (i64_w _).trans hji13
            by_cases c14 : 0 ≤ (ji13)
            · rw [if_pos c14] at H
              have c14b0 : decide (0 ≤ (ji13)) = true := decide_eq_true c14
              clear c14
              by_cases c15 : (ji13) < (x8_1.length : Int)
              · rw [if_pos c15] at H
                have c15b0 : decide ((ji13) < (x8_1.length : Int)) = true := decide_eq_true c15
                clear c15
                by_cases c16 : (ji13) ≤ (x8_1.length : Int)
                · rw [if_pos c16] at H
                  have c16b0 := eq_true c16
                  have c16b1 : decide ((ji13) ≤ (x8_1.length : Int)) = true := decide_eq_true c16
                  clear c16
                  obtain ⟨y234, hy234⟩ : ∃ y_ : List Int, y_ = (x8_1.take ((ji13) : Int).toNat) := ⟨_, rfl⟩
                  replace H : (if (rd x8_1 (ji13)) < 0 then (impl_Heap_reach_nil.l0 k1 x7_1 y234 l0_0 l0_1 l0_2) else (if 0 ≤ (rd x8_1 (ji13)) then (if (rd x8_1 (ji13)) < (x7_1.length : Int) then (if rdOf false x7_1 (rd x8_1 (ji13)) = true then (impl_Heap_reach_nil.l0 k1 x7_1 y234 l0_0 l0_1 l0_2) else (if (rd x8_1 (ji13)) < (l0_0.length : Int) then (if y234.length + (rd_L1 l0_0 (rd x8_1 (ji13))).length < 17592186044416 then (impl_Heap_reach_nil.l0 k1 (x7_1.set ((rd x8_1 (ji13)) : Int).toNat true) (y234 ++ (rd_L1 l0_0 (rd x8_1 (ji13)))) l0_0 l0_1 l0_2) else (none)) else (none))) else (none)) else (none))) = some r := by first | (rw [hy234]; with_reducible exact H) | (have H2_ := (Option.bind_some _ _).symm.trans H; rw [hy234]; with_reducible exact H2_) | (have H2_ := (Option.bind_some _ _).symm.trans H; with_reducible exact H2_) | with_reducible exact H | (rw [hy234]; exact H) | exact H
                  have Ny234 := Aside0.mk hy234
                  clear hy234
                  by_cases c17 : (rd x8_1 (ji13)) < 0
                  · rw [if_pos c17] at H
                    have c17b0 : decide ((rd x8_1 (ji13)) < 0) = true := decide_eq_true c17
                    clear c17
                    have H' := Aside0.mk H
                    clear H
                    obtain ⟨Ao18, co18, eo18⟩ := Kd.R_slice HO_8.out
                    subst eo18
                    have p233 : 0 ≤ ((ji13) : Int) := of_decide_eq_true (by first | (with_reducible assumption) | assumption)
                    have q233 : (ji13) < (x8_1.length : Int) := of_decide_eq_true (by first | (with_reducible assumption) | assumption)
                    obtain ⟨ad233, e233, hx233_0⟩ := Kd.at_int (Kd.R_reads' HO_8.out).2.2 (ji13) p233 q233
                    cases e233
                    replace p233 := eq_true p233
                    replace q233 := eq_true q233
                    have q19 : ((ji13) : Int) ≤ ((x8_1.length : Int) : Int) := of_decide_eq_true (by first | (with_reducible assumption) | assumption)
                    obtain ⟨i019, hi019, _, hsz19, _⟩ := info_parts info3
                    have hcut19 := cut_to (P := Try.prog) 24 3 .i64 Try.underlying24 hi019 (some ad233) x8_1.length co18 (ji13) (of_decide_eq_true (by first | (with_reducible assumption) | assumption)) q19 (Kd.R_reads' HO_8.out).2.1
                    have hr19 := Kd.R_take (m := ((ji13) : Int).toNat) HO_8.out (by omega)
                    have hy19 : y234.length = ((ji13) : Int).toNat := (by rw [Ny234.out, List.length_take]; omega)
                    rw [← Ny234.out] at hr19
                    rw [← hy19] at hr19 hcut19
                    clear hy19 hi019 hsz19 HO_8
                    have HO236 := Aside0.mk hr19
                    clear hr19
                    replace q19 := eq_true q19
                    go_wp2
                    go_roundg k1
                    case measure => have := HK1.out; omega
                    case rel => exact ⟨(x7_1), (y234), H', ⟨by have := HK1.out; omega⟩, ⟨by (with_reducible repeat (first | apply Kd.R_alloc | apply Kd.R_drewN | apply Kd.R_drew)); exact HO_7.out⟩, ⟨by (with_reducible repeat (first | apply Kd.R_alloc | apply Kd.R_drewN | apply Kd.R_drew)); exact HO236.out⟩, ⟨by first | with_reducible exact BK226.out | with_reducible exact blk_drewN BK226.out _ | ((with_reducible repeat (first | refine blk_drewN ?_ _ | refine blk_drew ?_ | refine blk_alloc ?_ _)); exact BK226.out)⟩, ⟨by repeat (first | (with_reducible first | exact HB.out | apply below_alloc | apply pw_below_drewN | apply below_drew1 | refine below_set ?_ GE226.out) | exact HB.out)⟩⟩
                  · rw [if_neg c17] at H
                    have c17b0 : decide ((rd x8_1 (ji13)) < 0) = false := decide_eq_false c17
                    clear c17
                    by_cases c20 : 0 ≤ (rd x8_1 (ji13))
                    · rw [if_pos c20] at H
                      have c20b0 : decide (0 ≤ (rd x8_1 (ji13))) = true := decide_eq_true c20
                      clear c20
                      by_cases c21 : (rd x8_1 (ji13)) < (x7_1.length : Int)
                      · rw [if_pos c21] at H
                        have c21b0 : decide ((rd x8_1 (ji13)) < (x7_1.length : Int)) = true := decide_eq_true c21
                        clear c21
                        obtain ⟨bq22, hbq22⟩ : ∃ b_ : Bool, b_ = (rdOf false x7_1 (rd x8_1 (ji13))) := ⟨_, rfl⟩
                        replace H : (if bq22 = true then (impl_Heap_reach_nil.l0 k1 x7_1 y234 l0_0 l0_1 l0_2) else (if (rd x8_1 (ji13)) < (l0_0.length : Int) then (if y234.length + (rd_L1 l0_0 (rd x8_1 (ji13))).length < 17592186044416 then (impl_Heap_reach_nil.l0 k1 (x7_1.set ((rd x8_1 (ji13)) : Int).toNat true) (y234 ++ (rd_L1 l0_0 (rd x8_1 (ji13)))) l0_0 l0_1 l0_2) else (none)) else (none))) = some r := by rw [← hbq22] at H; exact H
                        have Nbq22 := Aside0.mk hbq22
                        clear hbq22
                        by_cases c23 : bq22 = true
                        · subst c23
                          have H1 : (impl_Heap_reach_nil.l0 k1 x7_1 y234 l0_0 l0_1 l0_2) = some r := by rw [if_pos rfl] at H; exact H
                          clear H
                          have H := H1
                          clear H1
                          have H' := Aside0.mk H
                          clear H
                          obtain ⟨Ao24, co24, eo24⟩ := Kd.R_slice HO_8.out
                          subst eo24
                          have p233 : 0 ≤ ((ji13) : Int) := of_decide_eq_true (by first | (with_reducible assumption) | assumption)
                          have q233 : (ji13) < (x8_1.length : Int) := of_decide_eq_true (by first | (with_reducible assumption) | assumption)
                          obtain ⟨ad233, e233, hx233_0⟩ := Kd.at_int (Kd.R_reads' HO_8.out).2.2 (ji13) p233 q233
                          cases e233
                          replace p233 := eq_true p233
                          replace q233 := eq_true q233
                          have q25 : ((ji13) : Int) ≤ ((x8_1.length : Int) : Int) := of_decide_eq_true (by first | (with_reducible assumption) | assumption)
                          obtain ⟨i025, hi025, _, hsz25, _⟩ := info_parts info3
                          have hcut25 := cut_to (P := Try.prog) 24 3 .i64 Try.underlying24 hi025 (some ad233) x8_1.length co24 (ji13) (of_decide_eq_true (by first | (with_reducible assumption) | assumption)) q25 (Kd.R_reads' HO_8.out).2.1
                          have hr25 := Kd.R_take (m := ((ji13) : Int).toNat) HO_8.out (by omega)
                          have hy25 : y234.length = ((ji13) : Int).toNat := (by rw [Ny234.out, List.length_take]; omega)
                          rw [← Ny234.out] at hr25
                          rw [← hy25] at hr25 hcut25
                          clear hy25 hi025 hsz25 HO_8
                          have HO236 := Aside0.mk hr25
                          clear hr25
                          replace q25 := eq_true q25
                          obtain ⟨Ao26, co26, eo26⟩ := Kd.R_slice HO_7.out
                          subst eo26
                          have p237 : 0 ≤ ((rd x8_1 (ji13)) : Int) := of_decide_eq_true (by first | (with_reducible assumption) | assumption)
                          have q237 : (rd x8_1 (ji13)) < (x7_1.length : Int) := of_decide_eq_true (by first | (with_reducible assumption) | assumption)
                          obtain ⟨ad237, e237, hx237_0⟩ := Kd.at_bool (Kd.R_reads' HO_7.out).2.2 (rd x8_1 (ji13)) p237 q237
                          (try rw [← Nbq22.out] at hx237_0)
                          cases e237
                          replace p237 := eq_true p237
                          replace q237 := eq_true q237
                          go_wp2
                          go_roundg k1
                          case measure => have := HK1.out; omega
                          case rel => exact ⟨(x7_1), (y234), H', ⟨by have := HK1.out; omega⟩, ⟨by (with_reducible repeat (first | apply Kd.R_alloc | apply Kd.R_drewN | apply Kd.R_drew)); exact HO_7.out⟩, ⟨by (with_reducible repeat (first | apply Kd.R_alloc | apply Kd.R_drewN | apply Kd.R_drew)); exact HO236.out⟩, ⟨by first | with_reducible exact BK226.out | with_reducible exact blk_drewN BK226.out _ | ((with_reducible repeat (first | refine blk_drewN ?_ _ | refine blk_drew ?_ | refine blk_alloc ?_ _)); exact BK226.out)⟩, ⟨by repeat (first | (with_reducible first | exact HB.out | apply below_alloc | apply pw_below_drewN | apply below_drew1 | refine below_set ?_ GE226.out) | exact HB.out)⟩⟩
                        · replace c23 := Bool.eq_false_iff.mpr c23
                          subst c23
                          have H1 : (if (rd x8_1 (ji13)) < (l0_0.length : Int) then (if y234.length + (rd_L1 l0_0 (rd x8_1 (ji13))).length < 17592186044416 then (impl_Heap_reach_nil.l0 k1 (x7_1.set ((rd x8_1 (ji13)) : Int).toNat true) (y234 ++ (rd_L1 l0_0 (rd x8_1 (ji13)))) l0_0 l0_1 l0_2) else (none)) else (none)) = some r := by rw [if_neg (show ¬ (false = true) by decide)] at H; exact H
                          clear H
                          have H := H1
                          clear H1
                          obtain ⟨y238, hy238⟩ : ∃ y_ : List Bool, y_ = (x7_1.set ((rd x8_1 (ji13)) : Int).toNat true) := ⟨_, rfl⟩
                          replace H : (if (rd x8_1 (ji13)) < (l0_0.length : Int) then (if y234.length + (rd_L1 l0_0 (rd x8_1 (ji13))).length < 17592186044416 then (impl_Heap_reach_nil.l0 k1 y238 (y234 ++ (rd_L1 l0_0 (rd x8_1 (ji13)))) l0_0 l0_1 l0_2) else (none)) else (none)) = some r := by first | (rw [hy238]; with_reducible exact H) | (have H2_ := (Option.bind_some _ _).symm.trans H; rw [hy238]; with_reducible exact H2_) | (have H2_ := (Option.bind_some _ _).symm.trans H; with_reducible exact H2_) | with_reducible exact H | (rw [hy238]; exact H) | exact H
                          have Ny238 := Aside0.mk hy238
                          clear hy238
                          by_cases c28 : (rd x8_1 (ji13)) < (l0_0.length : Int)
                          · rw [if_pos c28] at H
                            have c28b0 : decide ((rd x8_1 (ji13)) < (l0_0.length : Int)) = true := decide_eq_true c28
                            clear c28
                            by_cases c29 : y234.length + (rd_L1 l0_0 (rd x8_1 (ji13))).length < 17592186044416
                            · rw [if_pos c29] at H
                              have LMc29 := Aside0.mk c29
                              clear c29
                              obtain ⟨y240, hy240⟩ : ∃ y_ : List Int, y_ = (y234 ++ (rd_L1 l0_0 (rd x8_1 (ji13)))) := ⟨_, rfl⟩
                              replace H : (impl_Heap_reach_nil.l0 k1 y238 y240 l0_0 l0_1 l0_2) = some r := by first | (rw [hy240]; with_reducible exact H) | (have H2_ := (Option.bind_some _ _).symm.trans H; rw [hy240]; with_reducible exact H2_) | (have H2_ := (Option.bind_some _ _).symm.trans H; with_reducible exact H2_) | with_reducible exact H | (rw [hy240]; exact H) | exact H
                              have Ny240 := Aside0.mk hy240
                              clear hy240
                              have H' := Aside0.mk H
                              clear H
                              obtain ⟨Ao30, co30, eo30⟩ := Kd.R_slice HO_8.out
                              subst eo30
                              have p233 : 0 ≤ ((ji13) : Int) := of_decide_eq_true (by first | (with_reducible assumption) | assumption)
                              have q233 : (ji13) < (x8_1.length : Int) := of_decide_eq_true (by first | (with_reducible assumption) | assumption)
                              obtain ⟨ad233, e233, hx233_0⟩ := Kd.at_int (Kd.R_reads' HO_8.out).2.2 (ji13) p233 q233
                              cases e233
                              replace p233 := eq_true p233
                              replace q233 := eq_true q233
                              have q31 : ((ji13) : Int) ≤ ((x8_1.length : Int) : Int) := of_decide_eq_true (by first | (with_reducible assumption) | assumption)
                              obtain ⟨i031, hi031, _, hsz31, _⟩ := info_parts info3
                              have hcut31 := cut_to (P := Try.prog) 24 3 .i64 Try.underlying24 hi031 (some ad233) x8_1.length co30 (ji13) (of_decide_eq_true (by first | (with_reducible assumption) | assumption)) q31 (Kd.R_reads' HO_8.out).2.1
                              have hr31 := Kd.R_take (m := ((ji13) : Int).toNat) HO_8.out (by omega)
                              have hy31 : y234.length = ((ji13) : Int).toNat := (by rw [Ny234.out, List.length_take]; omega)
                              rw [← Ny234.out] at hr31
                              rw [← hy31] at hr31 hcut31
                              clear hy31 hi031 hsz31 HO_8
                              have HO236 := Aside0.mk hr31
                              clear hr31
                              replace q31 := eq_true q31
                              obtain ⟨Ao32, co32, eo32⟩ := Kd.R_slice HO_7.out
                              subst eo32
                              have p237 : 0 ≤ ((rd x8_1 (ji13)) : Int) := of_decide_eq_true (by first | (with_reducible assumption) | assumption)
                              have q237 : (rd x8_1 (ji13)) < (x7_1.length : Int) := of_decide_eq_true (by first | (with_reducible assumption) | assumption)
                              obtain ⟨ad237, e237, hx237_0⟩ := Kd.at_bool (Kd.R_reads' HO_7.out).2.2 (rd x8_1 (ji13)) p237 q237
                              (try rw [← Nbq22.out] at hx237_0)
                              cases e237
                              replace p237 := eq_true p237
                              replace q237 := eq_true q237
                              have p27 : 0 ≤ ((rd x8_1 (ji13)) : Int) := of_decide_eq_true (by first | (with_reducible assumption) | assumption)
                              have q27 : ((rd x8_1 (ji13)) : Int) < ((x7_1.length : Int) : Int) := of_decide_eq_true (by first | (with_reducible assumption) | assumption)
                              obtain ⟨go27, co27, eo27, gb27, gl27, cl27, HG27⟩ := Kd.R_form HO_7.out (by omega)
                              (first | cases eo27 | (injection eo27 with ea_ en_ ec_; (first | subst ea_ | (injection ea_ with ea_; subst ea_)); subst ec_; clear en_))
                              have GB27 := Aside0.mk gb27
                              have GG27 := Aside0.mk HG27
                              clear gb27 gl27 HG27
                              (first | simp only [add_plain] at hx237_0 | skip)
                              obtain ⟨hx27_0, hf27_0⟩ := Kd.R_celln false HO_7.out ((rd x8_1 (ji13)) : Int) p27 q27
                              replace p27 := eq_true p27
                              replace q27 := eq_true q27
                              have HP33 := Kd.R_putg HO_7.out ((rd x8_1 (ji13)) : Int) true
                              go_wp2_with (first | ((with_reducible refine gate_store (t := 4) (p := 51) rfl ?_); refine store_event (t := 4) (p := 51) (v := ?vo_w34) (w1 := (wr.setCell ⟨go27, ((rd x8_1 (ji13)) : Int).toNat, none⟩ (.bool true))) ?hg ?ho ?hn ?hr ?_; (case ho => rfl); (case hg => rfl); (case hn => rfl); (case hr => first | (go_simp; done) | (go_simp; rfl)); intro w34 hw; have hg : wr.grownBy w34 (some go27) := (by rw [hw]; exact HP33.2); have hp_ : Kd.R Kd.bool 4 w34 w.heap.size (fun _ => True) (.slice (some ⟨go27, 0, none⟩) x7_1.length co32) y238 := (by rw [hw, Ny238.out]; exact HP33.1); clear HP33; have n0_ := Aside0.mk (hp_); have n1_ := Aside0.mk (Kd.R_over' (v := (.slice (some ⟨go27, 0, none⟩) x7_1.length co32)) (by (with_reducible repeat (first | apply Kd.R_alloc | apply Kd.R_drewN | apply Kd.R_drew)); exact HO236.out) (Kd.R_typed HO_7.out) (by decide) hg); have n2_ := Aside0.mk (blk_grown (g := gb226) (o := .cells #[.slice A0_0 l0_0.length c0_0, .slice A0_1 l0_1.length c0_1, .slice A0_2 l0_2.length c0_2] 30 (0, 0)) (by first | with_reducible exact BK226.out | with_reducible exact blk_drewN BK226.out _ | ((with_reducible repeat (first | refine blk_drewN ?_ _ | refine blk_drew ?_ | refine blk_alloc ?_ _)); exact BK226.out)) hg (Kd.R_ne HO_7.out BK226.out (by decide))); have n3_ := Aside0.mk ((by rw [hw]; exact below_set (HB.out) GB27.out : Below w.heap.size w w34)); clear HO_7; clear HO236; clear BK226; clear HB; have HO_7 := n0_; have HO236 := n1_; have BK226 := n2_; have HB := n3_; clear n0_ n1_ n2_ n3_; clear hg hw hp_; have hcz35_0 : w34.cell? ⟨gb226, 0, none⟩ = some (.slice A0_0 l0_0.length c0_0) := (blk_cell BK226.out 0).trans rfl; have hcz35_1 : w34.cell? ⟨gb226, 1, none⟩ = some (.slice A0_1 l0_1.length c0_1) := (blk_cell BK226.out 1).trans rfl; have hcz35_2 : w34.cell? ⟨gb226, 2, none⟩ = some (.slice A0_2 l0_2.length c0_2) := (blk_cell BK226.out 2).trans rfl; have hfz35_0 := blk_frozen BK226.out 0; have hfz35_1 := blk_frozen BK226.out 1; have hfz35_2 := blk_frozen BK226.out 2; have p239 : 0 ≤ ((rd x8_1 (ji13)) : Int) := of_decide_eq_true (by first | (with_reducible assumption) | assumption); have q239 : (rd x8_1 (ji13)) < (l0_0.length : Int) := of_decide_eq_true (by first | (with_reducible assumption) | assumption); obtain ⟨ad239, A239_0, c239_0, e239, hx239_0, hl239_0, hi239_0⟩ := at_L1 HR0_0.out (rd x8_1 (ji13)) p239 q239; cases e239; replace hx239_0 := (HB.out.cell (World.block_lt_of_cell? w _ hx239_0)).trans hx239_0; have HR239_0 := Aside0.mk hi239_0; have HC239_0 := Aside0.mk hl239_0; clear hi239_0 hl239_0; replace p239 := eq_true p239; replace q239 := eq_true q239) | ((with_reducible refine gate_builtin (b := .append) (xs := #[.tmp 52, .tmp 57]) rfl ?_); at_builtin; refine Kd.R_append_rows (Kd.int .i64) (w0 := w) w.heap.size rfl (.tmp 52) (.tmp 57) 24 3 (.int .i64 0) 8 rfl Try.underlying24 info3 rfl (by decide) (by omega) (.slice (some ad233) y234.length co30) y234 (rd_L1 l0_0 (rd x8_1 (ji13))) _ _ _ (fun _ => True) (fun _ => False) rfl rfl ?aO ?aR (fun _ _ h => h) (fun _ h => h.elim) ?aF ?aB ?aS ?aL ?_; (case aR => repeat (first | exact (Kd.C_below HR239_0.out HB.out) | (with_reducible refine Kd.C_alloc ?_ _) | (with_reducible refine Kd.C_drewN ?_ _) | (with_reducible refine Kd.C_drew ?_))); (case aB => exact (by repeat (first | (with_reducible first | exact HB.out | apply below_alloc | apply pw_below_drewN | apply below_drew1 | refine below_set ?_ GE226.out) | exact HB.out))); (case aF => exact (fun _ _ => trivial)); (case aO => exact (by (with_reducible repeat (first | apply Kd.R_alloc | apply Kd.R_drewN | apply Kd.R_drew)); exact HO236.out)); (case aS => exact (below_size (by repeat (first | (with_reducible first | exact HB.out | apply below_alloc | apply pw_below_drewN | apply below_drew1 | refine below_set ?_ GE226.out) | exact HB.out)))); (case aL => have := LMc29.out; omega); intro v241 w36 ho hb hg hat; rw [← Ny240.out] at ho; have n0_ := Aside0.mk (Kd.R_over' (by (with_reducible repeat (first | apply Kd.R_alloc | apply Kd.R_drewN | apply Kd.R_drew)); exact HO_7.out) (Kd.R_typed (by (with_reducible repeat (first | apply Kd.R_alloc | apply Kd.R_drewN | apply Kd.R_drew)); exact HO236.out)) (by decide) hg); have n1_ := Aside0.mk (blk_grown (g := gb226) (o := .cells #[.slice (some ad239) l0_0.length c0_0, .slice A0_1 l0_1.length c0_1, .slice A0_2 l0_2.length c0_2] 30 (0, 0)) (by first | with_reducible exact BK226.out | with_reducible exact blk_drewN BK226.out _ | ((with_reducible repeat (first | refine blk_drewN ?_ _ | refine blk_drew ?_ | refine blk_alloc ?_ _)); exact BK226.out)) hg (Kd.R_ne HO236.out BK226.out (by decide))); have n2_ := Aside0.mk (hb); have n3_ := Aside0.mk (ho); clear HO_7; clear BK226; clear HB; clear HO236; have HO_7 := n0_; have BK226 := n1_; have HB := n2_; have HO242 := n3_; clear n0_ n1_ n2_ n3_; clear ho hb hg hat))
                              go_roundg k1
                              case measure => have := HK1.out; omega
                              case rel => exact ⟨(y238), (y240), H', ⟨by have := HK1.out; omega⟩, ⟨by (with_reducible repeat (first | apply Kd.R_alloc | apply Kd.R_drewN | apply Kd.R_drew)); exact HO_7.out⟩, ⟨by (with_reducible repeat (first | apply Kd.R_alloc | apply Kd.R_drewN | apply Kd.R_drew)); exact HO242.out⟩, ⟨by first | with_reducible exact BK226.out | with_reducible exact blk_drewN BK226.out _ | ((with_reducible repeat (first | refine blk_drewN ?_ _ | refine blk_drew ?_ | refine blk_alloc ?_ _)); exact BK226.out)⟩, ⟨by repeat (first | (with_reducible first | exact HB.out | apply below_alloc | apply pw_below_drewN | apply below_drew1 | refine below_set ?_ GE226.out) | exact HB.out)⟩⟩
                            · rw [if_neg c29] at H
                              exact absurd H (by simp)
                          · rw [if_neg c28] at H
                            exact absurd H (by simp)
                      · rw [if_neg c21] at H
                        exact absurd H (by simp)
                    · rw [if_neg c20] at H
                      exact absurd H (by simp)
                · rw [if_neg c16] at H
                  exact absurd H (by simp)
              · rw [if_neg c15] at H
                exact absurd H (by simp)
            · rw [if_neg c14] at H
              exact absurd H (by simp)
          · rw [if_neg c12] at H
            have c12b0 : decide (0 < (x8_1.length : Int)) = false := decide_eq_false c12
            have c12b1 : decide (0 < x8_1.length) = false := decide_eq_false (by omega)
            clear c12
            obtain rfl := Option.some.inj H
            obtain ⟨Ao37, co37, eo37⟩ := Kd.R_slice HO_8.out
            subst eo37
            go_wp2
            go_ret
            exact ⟨_, by first | rfl | (simp [errW_none, errW_some] <;> rfl) | (simp [*, errW_none, errW_some] <;> rfl), by (with_reducible repeat (first | apply Kd.R_alloc | apply Kd.R_drewN | apply Kd.R_drew)); exact HO_7.out, by repeat (first | (with_reducible first | exact HB.out | apply below_alloc | apply pw_below_drewN | apply below_drew1 | refine below_set ?_ GE226.out) | exact HB.out)⟩
    · rw [if_neg c5] at H
      exact absurd H (by simp)
  · rw [if_neg c4] at H
    exact absurd H (by simp)

/-! ### impl_Heap_reach: function 51 -/
def impl_Heap_reach.l0 : Nat → List Bool → List Bool → List Int → List (List Int) → List Bool → List Int → Option (List Bool)
  | 0, _, _, _, _, _, _ => none
  | k + 1, x2, x7, x8, x244000, x244001, x244002 => if (x8.length : Int) > 0 then (if 0 ≤ (wrap64 ((x8.length : Int) - 1)) then (if (wrap64 ((x8.length : Int) - 1)) < (x8.length : Int) then (if (wrap64 ((x8.length : Int) - 1)) ≤ (x8.length : Int) then ((some (x8.take ((wrap64 ((x8.length : Int) - 1)) : Int).toNat : List Int)).bind fun y251 => (if (rd x8 (wrap64 ((x8.length : Int) - 1))) < 0 then (impl_Heap_reach.l0 k x2 x7 y251 x244000 x244001 x244002) else (if 0 ≤ (rd x8 (wrap64 ((x8.length : Int) - 1))) then (if (rd x8 (wrap64 ((x8.length : Int) - 1))) < (x7.length : Int) then (if rdOf false x7 (rd x8 (wrap64 ((x8.length : Int) - 1))) = true then (impl_Heap_reach.l0 k x2 x7 y251 x244000 x244001 x244002) else (if 0 < x2.length then (if (rd x8 (wrap64 ((x8.length : Int) - 1))) < (x2.length : Int) then (if (rdOf false x2 (rd x8 (wrap64 ((x8.length : Int) - 1))) = true) then (if (rd x8 (wrap64 ((x8.length : Int) - 1))) < (x244000.length : Int) then (if y251.length + (rd_L1 x244000 (rd x8 (wrap64 ((x8.length : Int) - 1)))).length < 17592186044416 then (impl_Heap_reach.l0 k x2 (x7.set ((rd x8 (wrap64 ((x8.length : Int) - 1))) : Int).toNat true) (y251 ++ (rd_L1 x244000 (rd x8 (wrap64 ((x8.length : Int) - 1))))) x244000 x244001 x244002) else (none)) else (none)) else (impl_Heap_reach.l0 k x2 x7 y251 x244000 x244001 x244002)) else (none)) else (none))) else (none)) else (none)))) else (none)) else (none)) else (none)) else (some x7)
def impl_Heap_reach.f (k : Nat) (l0_0 : List (List Int)) (l0_1 : List Bool) (l0_2 : List Int) (l1 : List Int) (l2 : List Bool) : Option (List Bool) := if 0 ≤ (l0_0.length : Int) then (if ((l0_0.length : Int) : Int).toNat ≤ 281474976710656 then ((slices_Clone_int_int.f l1).bind fun t247 => (impl_Heap_reach.l0 k l2 (List.replicate ((l0_0.length : Int) : Int).toNat false) t247 l0_0 l0_1 l0_2)) else (none)) else (none)
theorem impl_Heap_reach.mono_l : ∀ k, (∀ y0 y1 y2 y3 y4 y5, LeO (impl_Heap_reach.l0 k y0 y1 y2 y3 y4 y5) (impl_Heap_reach.l0 (k + 1) y0 y1 y2 y3 y4 y5))
  | 0 => fun _ _ _ _ _ _ r h => by simp [impl_Heap_reach.l0] at h
  | k + 1 => by
    have ih0 := impl_Heap_reach.mono_l k
    · intro y0 y1 y2 y3 y4 y5
      unfold impl_Heap_reach.l0
      repeat' first
      | (with_reducible exact ih0 _ _ _ _ _ _)
      | (with_reducible exact LeO.refl _)
      | (with_reducible exact LeO.none _)
      | (with_reducible refine LeO.ite ?_ ?_)
      | (with_reducible refine LeO.bind ?_ (fun _ => ?_))
      | exact ih0 _ _ _ _ _ _
      | exact LeO.none _
      | refine LeO.ite ?_ ?_
      | refine LeO.bind ?_ (fun _ => ?_)
theorem impl_Heap_reach.mono : ∀ a0 a1 a2 a3 a4 k, LeO (impl_Heap_reach.f k a0 a1 a2 a3 a4) (impl_Heap_reach.f (k + 1) a0 a1 a2 a3 a4) := by
  intro a0 a1 a2 a3 a4 k
  have ih0 := impl_Heap_reach.mono_l k
  unfold impl_Heap_reach.f
  repeat' first
      | (with_reducible exact ih0 _ _ _ _ _ _)
      | (with_reducible exact LeO.refl _)
      | (with_reducible exact LeO.none _)
      | (with_reducible refine LeO.ite ?_ ?_)
      | (with_reducible refine LeO.bind ?_ (fun _ => ?_))
      | exact ih0 _ _ _ _ _ _
      | exact LeO.none _
      | refine LeO.ite ?_ ?_
      | refine LeO.bind ?_ (fun _ => ?_)
set_option maxHeartbeats 8000000 in
set_option maxRecDepth 100000 in
theorem impl_Heap_reach.calls (k : Nat) (A0_0 : Option Addr) (c0_0 : Nat) (l0_0 : List (List Int)) (A0_1 : Option Addr) (c0_1 : Nat) (l0_1 : List Bool) (A0_2 : Option Addr) (c0_2 : Nat) (l0_2 : List Int) (A1 : Option Addr) (c1 : Nat) (l1 : List Int) (A2 : Option Addr) (c2 : Nat) (l2 : List Bool) (r : List Bool) (w : World) (hr0_0 : Kd.C (Kd.slice 3 (Kd.int .i64)) w A0_0 l0_0.length l0_0) (hc0_0 : l0_0.length ≤ c0_0) (hr0_1 : Kd.C Kd.bool w A0_1 l0_1.length l0_1) (hc0_1 : l0_1.length ≤ c0_1) (hr0_2 : Kd.C (Kd.int .i64) w A0_2 l0_2.length l0_2) (hc0_2 : l0_2.length ≤ c0_2) (hr1 : Kd.C (Kd.int .i64) w A1 l1.length l1) (hc1 : l1.length ≤ c1) (hr2 : Kd.C Kd.bool w A2 l2.length l2) (hc2 : l2.length ≤ c2) (h : impl_Heap_reach.f k l0_0 l0_1 l0_2 l1 l2 = some r) :
    Calls Try.prog 51 #[.agg #[.slice A0_0 l0_0.length c0_0, .slice A0_1 l0_1.length c0_1, .slice A0_2 l0_2.length c0_2], .slice A1 l1.length c1, .slice A2 l2.length c2] w fun e w' => ∃ v0_ : Value, e = .returned (v0_) ∧ Kd.R Kd.bool 4 w' w.heap.size (fun _ => True) v0_ r ∧ Below w.heap.size w w' := by
  have hu30 := Try.underlying30
  have hq0_ : 0 < l2.length → ∀ W : World, (binOp .neq 23 (.slice A2 l2.length c2) (.slice none 0 0)).run Try.prog W = .ok (.bool true) W := by
    intro h_ W
    obtain ⟨_, e_, _⟩ := hr2.2.2 h_
    exact (run_neq_nil W 23 4 A2 l2.length c2 Try.underlying23).trans (by rw [e_]; rfl)
  have HR0_0 := Aside0.mk hr0_0
  have HC0_0 := Aside0.mk hc0_0
  clear hr0_0 hc0_0
  have HR0_1 := Aside0.mk hr0_1
  have HC0_1 := Aside0.mk hc0_1
  clear hr0_1 hc0_1
  have HR0_2 := Aside0.mk hr0_2
  have HC0_2 := Aside0.mk hc0_2
  clear hr0_2 hc0_2
  have HR1 := Aside0.mk hr1
  have HC1 := Aside0.mk hc1
  clear hr1 hc1
  have HR2 := Aside0.mk hr2
  have HC2 := Aside0.mk hc2
  clear hr2 hc2
  have HB := Aside0.mk (Below.refl w.heap.size w)
  have H : (if 0 ≤ (l0_0.length : Int) then (if ((l0_0.length : Int) : Int).toNat ≤ 281474976710656 then ((slices_Clone_int_int.f l1).bind fun t247 => (impl_Heap_reach.l0 k l2 (List.replicate ((l0_0.length : Int) : Int).toNat false) t247 l0_0 l0_1 l0_2)) else (none)) else (none)) = some r := h
  clear h
  by_cases c4 : 0 ≤ (l0_0.length : Int)
  · rw [if_pos c4] at H
    have c4b0 := eq_true c4
    have c4b1 : decide (0 ≤ (l0_0.length : Int)) = true := decide_eq_true c4
    clear c4
    by_cases c5 : ((l0_0.length : Int) : Int).toNat ≤ 281474976710656
    · rw [if_pos c5] at H
      have c5b0 := eq_true c5
      have c5b1 : decide (((l0_0.length : Int) : Int).toNat ≤ 281474976710656) = true := decide_eq_true c5
      clear c5
      obtain ⟨y244, hy244⟩ : ∃ y_ : List Bool, y_ = (List.replicate ((l0_0.length : Int) : Int).toNat false) := ⟨_, rfl⟩
      replace H : ((slices_Clone_int_int.f l1).bind fun t247 => (impl_Heap_reach.l0 k l2 y244 t247 l0_0 l0_1 l0_2)) = some r := by first | (rw [hy244]; with_reducible exact H) | (have H2_ := (Option.bind_some _ _).symm.trans H; rw [hy244]; with_reducible exact H2_) | (have H2_ := (Option.bind_some _ _).symm.trans H; with_reducible exact H2_) | with_reducible exact H | (rw [hy244]; exact H) | exact H
      have Ny244 := Aside0.mk hy244
      clear hy244
      replace H := Option.bind_eq_some_iff.mp H
      obtain ⟨t247, A60, H⟩ := H
      replace H : (impl_Heap_reach.l0 k l2 y244 t247 l0_0 l0_1 l0_2) = some r := H
      have A6 := Aside0.mk A60
      clear A60
      have H' := Aside0.mk H
      clear H
      go_enter Try.func51, Try.ntmps51
      go_wp2_with (first | ((with_reducible refine gate_dst (N := 3) rfl ?_); refine box_event ?hg (N := 3) ?hd (cs := #[.slice A0_0 l0_0.length c0_0, .slice A0_1 l0_1.length c0_1, .slice A0_2 l0_2.length c0_2]) (t := 30) ?hr ?_; (case hd => rfl); (case hg => rfl); (case hr => first | (go_simp; done) | (go_simp; rfl)); intro gb243 hg w7 hbox hb; have n0_ := Aside0.mk (below_step (by repeat (first | (with_reducible first | exact HB.out | apply below_alloc | apply pw_below_drewN | apply below_drew1) | exact HB.out)) hb); have n1_ := Aside0.mk (hbox); have n2_ := Aside0.mk ((by rw [hg]; exact (below_size (by repeat (first | (with_reducible first | exact HB.out | apply below_alloc | apply pw_below_drewN | apply below_drew1) | exact HB.out))) : w.heap.size ≤ gb243)); have n3_ := Aside0.mk ((by rw [hg]; exact (below_size (by repeat (first | (with_reducible first | exact HB.out | apply below_alloc | apply pw_below_drewN | apply below_drew1) | exact HB.out))) : w.heap.size ≤ gb243)); clear HB; have HB := n0_; have BK243 := n1_; have GW243 := n2_; have GE243 := n3_; clear n0_ n1_ n2_ n3_; clear hb hbox hg; have hcz8_0 : w7.cell? ⟨gb243, 0, none⟩ = some (.slice A0_0 l0_0.length c0_0) := (blk_cell BK243.out 0).trans rfl; have hcz8_1 : w7.cell? ⟨gb243, 1, none⟩ = some (.slice A0_1 l0_1.length c0_1) := (blk_cell BK243.out 1).trans rfl; have hcz8_2 : w7.cell? ⟨gb243, 2, none⟩ = some (.slice A0_2 l0_2.length c0_2) := (blk_cell BK243.out 2).trans rfl; have hfz8_0 := blk_frozen BK243.out 0; have hfz8_1 := blk_frozen BK243.out 1; have hfz8_2 := blk_frozen BK243.out 2) | ((with_reducible refine gate_dst (N := 13) rfl ?_); refine Kd.R_make Kd.bool _ 4 rfl (N := 13) rfl 23 _ _ rfl (l0_0.length : Int) rfl rfl Try.underlying23 (.bool false) 1 info4 rfl (by decide) (by omega) false (ok := fun _ => True) (okp := fun _ => True) rfl (fun _ hk => hk) trivial (of_decide_eq_true (by first | (with_reducible assumption) | assumption)) (Nat.le_trans (Nat.mul_le_mul_right _ (of_decide_eq_true (by first | (with_reducible assumption) | assumption) : (l0_0.length : Int).toNat ≤ 281474976710656)) (by omega)) (Below.refl _ _) (Nat.le_refl _) ?_; intro v245 w9 ho10 hb hg_ hnew_; clear hg_ hnew_; (first | rw [← Ny244.out] at ho10 | (simp only [Int.reduceToNat] at ho10; rw [← Ny244.out] at ho10)); have n0_ := Aside0.mk (Kd.R_lower ho10 (below_size (by repeat (first | (with_reducible first | exact HB.out | apply below_alloc | apply pw_below_drewN | apply below_drew1 | refine below_set ?_ GE243.out) | exact HB.out)))); have n1_ := Aside0.mk (blk_below (g := gb243) (o := .cells #[.slice A0_0 l0_0.length c0_0, .slice A0_1 l0_1.length c0_1, .slice A0_2 l0_2.length c0_2] 30 (0, 0)) (by first | with_reducible exact BK243.out | with_reducible exact blk_drewN BK243.out _ | ((with_reducible repeat (first | refine blk_drewN ?_ _ | refine blk_drew ?_ | refine blk_alloc ?_ _)); exact BK243.out)) hb); have n2_ := Aside0.mk (below_step (by repeat (first | (with_reducible first | exact HB.out | apply below_alloc | apply pw_below_drewN | apply below_drew1 | refine below_set ?_ GE243.out) | exact HB.out)) hb); clear BK243; clear HB; have HO246 := n0_; have BK243 := n1_; have HB := n2_; clear n0_ n1_ n2_; clear hb ho10) | ((with_reducible refine gate_callee (f := 61) rfl ?_); refine goesL_ (some 15) rfl rfl Try.func61 (by kernel_rfl) rfl #[.slice A1 l1.length c1] rfl (by (try simp only [List.map_toArray, List.map_cons, List.map_nil]); first | done | rfl | (simp only [List.length_drop, List.length_take]; rfl)) ?_; (with_reducible refine (slices_Clone_int_int.calls _ _ l1 t247 _ ?side1 ?side2 A6.out).mono ?_); (case side1 => repeat (first | exact (Kd.C_below HR1.out HB.out) | (with_reducible refine Kd.C_alloc ?_ _) | (with_reducible refine Kd.C_drewN ?_ _) | (with_reducible refine Kd.C_drew ?_))); (case side2 => exact HC1.out); rintro e w11 ⟨v248, rfl, ho0, hb⟩; refine ⟨_, rfl, ?_⟩; have n0_ := Aside0.mk (Kd.R_below (by (with_reducible repeat (first | apply Kd.R_alloc | apply Kd.R_drewN | apply Kd.R_drew)); exact HO246.out) hb); have n1_ := Aside0.mk (Kd.R_lower ho0 (below_size (by repeat (first | (with_reducible first | exact HB.out | apply below_alloc | apply pw_below_drewN | apply below_drew1 | refine below_set ?_ GE243.out) | exact HB.out)))); have n2_ := Aside0.mk (blk_below (g := gb243) (o := .cells #[.slice A0_0 l0_0.length c0_0, .slice A0_1 l0_1.length c0_1, .slice A0_2 l0_2.length c0_2] 30 (0, 0)) (by first | with_reducible exact BK243.out | with_reducible exact blk_drewN BK243.out _ | ((with_reducible repeat (first | refine blk_drewN ?_ _ | refine blk_drew ?_ | refine blk_alloc ?_ _)); exact BK243.out)) hb); have n3_ := Aside0.mk (below_step (by repeat (first | (with_reducible first | exact HB.out | apply below_alloc | apply pw_below_drewN | apply below_drew1 | refine below_set ?_ GE243.out) | exact HB.out)) hb); clear HO246; clear BK243; clear HB; have HO246 := n0_; have HO249 := n1_; have BK243 := n2_; have HB := n3_; clear n0_ n1_ n2_ n3_; (try clear hb); (try clear hb2); (try clear hk); (try clear hi); (try clear ho0)))
      go_loopg [8] k (fun kq v8 w' => ∃ (x7_1 : List Bool) (x8_1 : List Int), Aside0 (impl_Heap_reach.l0 kq l2 x7_1 x8_1 l0_0 l0_1 l0_2 = some r) ∧ Aside0 (kq ≤ k) ∧ Aside0 (Kd.R Kd.bool 4 w' w.heap.size (fun _ => True) v245 x7_1) ∧ Aside0 (Kd.R (Kd.int .i64) 3 w' w.heap.size (fun _ => True) v8 x8_1) ∧ Aside0 (w'.heap[gb243]? = some (.cells #[(.slice A0_0 l0_0.length c0_0), (.slice A0_1 l0_1.length c0_1), (.slice A0_2 l0_2.length c0_2)] 30 (0, 0))) ∧ Aside0 (Below w.heap.size w w'))
      case atStart => exact ⟨(y244), (t247), H', ⟨Nat.le_refl _⟩, ⟨by (with_reducible repeat (first | apply Kd.R_alloc | apply Kd.R_drewN | apply Kd.R_drew)); exact HO246.out⟩, ⟨by (with_reducible repeat (first | apply Kd.R_alloc | apply Kd.R_drewN | apply Kd.R_drew)); exact HO249.out⟩, ⟨by first | with_reducible exact BK243.out | with_reducible exact blk_drewN BK243.out _ | ((with_reducible repeat (first | refine blk_drewN ?_ _ | refine blk_drew ?_ | refine blk_alloc ?_ _)); exact BK243.out)⟩, ⟨by repeat (first | (with_reducible first | exact HB.out | apply below_alloc | apply pw_below_drewN | apply below_drew1 | refine below_set ?_ GE243.out) | exact HB.out)⟩⟩
      case round =>
        clear H'
        try clear c1
        try clear c2
        try clear p2
        try clear c4
        try clear c4b0
        try clear c4b1
        try clear c5
        try clear c5b0
        try clear c5b1
        try clear c6
        try clear hcz8_0
        try clear hcz8_1
        try clear hcz8_2
        try clear hfz8_0
        try clear hfz8_1
        try clear hfz8_2
        obtain ⟨x7_1, x8_1, HA, HK1, HO_7, HO_8, BK243, HB⟩ := hrel
        cases gk with
        | zero => exact absurd HA.out (by simp [impl_Heap_reach.l0])
        | succ k1 =>
          have H := HA.out
          clear HA
          simp only [impl_Heap_reach.l0] at H
          by_cases c12 : (x8_1.length : Int) > 0
          · rw [if_pos c12] at H
            have c12b0 : decide (0 < (x8_1.length : Int)) = true := decide_eq_true c12
            have c12b1 : decide (0 < x8_1.length) = true := decide_eq_true (by omega)
            clear c12
            obtain ⟨ji13, hji13⟩ : ∃ j_ : Int, (wrap64 ((x8_1.length : Int) - 1)) = j_ := ⟨_, rfl⟩
            replace H : (if 0 ≤ (ji13) then (if (ji13) < (x8_1.length : Int) then (if (ji13) ≤ (x8_1.length : Int) then ((some (x8_1.take ((ji13) : Int).toNat : List Int)).bind fun y251 => (if (rd x8_1 (ji13)) < 0 then (impl_Heap_reach.l0 k1 l2 x7_1 y251 l0_0 l0_1 l0_2) else (if 0 ≤ (rd x8_1 (ji13)) then (if (rd x8_1 (ji13)) < (x7_1.length : Int) then (if rdOf false x7_1 (rd x8_1 (ji13)) = true then (impl_Heap_reach.l0 k1 l2 x7_1 y251 l0_0 l0_1 l0_2) else (if 0 < l2.length then (if (rd x8_1 (ji13)) < (l2.length : Int) then (if (rdOf false l2 (rd x8_1 (ji13)) = true) then (if (rd x8_1 (ji13)) < (l0_0.length : Int) then (if y251.length + (rd_L1 l0_0 (rd x8_1 (ji13))).length < 17592186044416 then (impl_Heap_reach.l0 k1 l2 (x7_1.set ((rd x8_1 (ji13)) : Int).toNat true) (y251 ++ (rd_L1 l0_0 (rd x8_1 (ji13)))) l0_0 l0_1 l0_2) else (none)) else (none)) else (impl_Heap_reach.l0 k1 l2 x7_1 y251 l0_0 l0_1 l0_2)) else (none)) else (none))) else (none)) else (none)))) else (none)) else (none)) else (none)) = some r := by first | (rw [hji13] at H; exact H) | (simp only [hji13] at H ⊢; exact H)
            have hji13w : (IntKind.i64.wrap ((x8_1.length : Int) - 1)) = ji13 := (i64_w _).trans hji13
            by_cases c14 : 0 ≤ (ji13)
            · rw [if_pos c14] at H
              have c14b0 : decide (0 ≤ (ji13)) = true := decide_eq_true c14
              clear c14
              by_cases c15 : (ji13) < (x8_1.length : Int)
              · rw [if_pos c15] at H
                have c15b0 : decide ((ji13) < (x8_1.length : Int)) = true := decide_eq_true c15
                clear c15
                by_cases c16 : (ji13) ≤ (x8_1.length : Int)
                · rw [if_pos c16] at H
                  have c16b0 := eq_true c16
                  have c16b1 : decide ((ji13) ≤ (x8_1.length : Int)) = true := decide_eq_true c16
                  clear c16
                  obtain ⟨y251, hy251⟩ : ∃ y_ : List Int, y_ = (x8_1.take ((ji13) : Int).toNat) := ⟨_, rfl⟩
                  replace H : (if (rd x8_1 (ji13)) < 0 then (impl_Heap_reach.l0 k1 l2 x7_1 y251 l0_0 l0_1 l0_2) else (if 0 ≤ (rd x8_1 (ji13)) then (if (rd x8_1 (ji13)) < (x7_1.length : Int) then (if rdOf false x7_1 (rd x8_1 (ji13)) = true then (impl_Heap_reach.l0 k1 l2 x7_1 y251 l0_0 l0_1 l0_2) else (if 0 < l2.length then (if (rd x8_1 (ji13)) < (l2.length : Int) then (if (rdOf false l2 (rd x8_1 (ji13)) = true) then (if (rd x8_1 (ji13)) < (l0_0.length : Int) then (if y251.length + (rd_L1 l0_0 (rd x8_1 (ji13))).length < 17592186044416 then (impl_Heap_reach.l0 k1 l2 (x7_1.set ((rd x8_1 (ji13)) : Int).toNat true) (y251 ++ (rd_L1 l0_0 (rd x8_1 (ji13)))) l0_0 l0_1 l0_2) else (none)) else (none)) else (impl_Heap_reach.l0 k1 l2 x7_1 y251 l0_0 l0_1 l0_2)) else (none)) else (none))) else (none)) else (none))) = some r := by first | (rw [hy251]; with_reducible exact H) | (have H2_ := (Option.bind_some _ _).symm.trans H; rw [hy251]; with_reducible exact H2_) | (have H2_ := (Option.bind_some _ _).symm.trans H; with_reducible exact H2_) | with_reducible exact H | (rw [hy251]; exact H) | exact H
                  have Ny251 := Aside0.mk hy251
                  clear hy251
                  by_cases c17 : (rd x8_1 (ji13)) < 0
                  · rw [if_pos c17] at H
                    have c17b0 : decide ((rd x8_1 (ji13)) < 0) = true := decide_eq_true c17
                    clear c17
                    have H' := Aside0.mk H
                    clear H
                    obtain ⟨Ao18, co18, eo18⟩ := Kd.R_slice HO_8.out
                    subst eo18
                    have p250 : 0 ≤ ((ji13) : Int) := of_decide_eq_true (by first | (with_reducible assumption) | assumption)
                    have q250 : (ji13) < (x8_1.length : Int) := of_decide_eq_true (by first | (with_reducible assumption) | assumption)
                    obtain ⟨ad250, e250, hx250_0⟩ := Kd.at_int (Kd.R_reads' HO_8.out).2.2 (ji13) p250 q250
                    cases e250
                    replace p250 := eq_true p250
                    replace q250 := eq_true q250
                    have q19 : ((ji13) : Int) ≤ ((x8_1.length : Int) : Int) := of_decide_eq_true (by first | (with_reducible assumption) | assumption)
                    obtain ⟨i019, hi019, _, hsz19, _⟩ := info_parts info3
                    have hcut19 := cut_to (P := Try.prog) 24 3 .i64 Try.underlying24 hi019 (some ad250) x8_1.length co18 (ji13) (of_decide_eq_true (by first | (with_reducible assumption) | assumption)) q19 (Kd.R_reads' HO_8.out).2.1
                    have hr19 := Kd.R_take (m := ((ji13) : Int).toNat) HO_8.out (by omega)
                    have hy19 : y251.length = ((ji13) : Int).toNat := (by rw [Ny251.out, List.length_take]; omega)
                    rw [← Ny251.out] at hr19
                    rw [← hy19] at hr19 hcut19
                    clear hy19 hi019 hsz19 HO_8
                    have HO253 := Aside0.mk hr19
                    clear hr19
                    replace q19 := eq_true q19
                    go_wp2
                    go_roundg k1
                    case measure => have := HK1.out; omega
                    case rel => exact ⟨(x7_1), (y251), H', ⟨by have := HK1.out; omega⟩, ⟨by (with_reducible repeat (first | apply Kd.R_alloc | apply Kd.R_drewN | apply Kd.R_drew)); exact HO_7.out⟩, ⟨by (with_reducible repeat (first | apply Kd.R_alloc | apply Kd.R_drewN | apply Kd.R_drew)); exact HO253.out⟩, ⟨by first | with_reducible exact BK243.out | with_reducible exact blk_drewN BK243.out _ | ((with_reducible repeat (first | refine blk_drewN ?_ _ | refine blk_drew ?_ | refine blk_alloc ?_ _)); exact BK243.out)⟩, ⟨by repeat (first | (with_reducible first | exact HB.out | apply below_alloc | apply pw_below_drewN | apply below_drew1 | refine below_set ?_ GE243.out) | exact HB.out)⟩⟩
                  · rw [if_neg c17] at H
                    have c17b0 : decide ((rd x8_1 (ji13)) < 0) = false := decide_eq_false c17
                    clear c17
                    by_cases c20 : 0 ≤ (rd x8_1 (ji13))
                    · rw [if_pos c20] at H
                      have c20b0 : decide (0 ≤ (rd x8_1 (ji13))) = true := decide_eq_true c20
                      clear c20
                      by_cases c21 : (rd x8_1 (ji13)) < (x7_1.length : Int)
                      · rw [if_pos c21] at H
                        have c21b0 : decide ((rd x8_1 (ji13)) < (x7_1.length : Int)) = true := decide_eq_true c21
                        clear c21
                        obtain ⟨bq22, hbq22⟩ : ∃ b_ : Bool, b_ = (rdOf false x7_1 (rd x8_1 (ji13))) := ⟨_, rfl⟩
                        replace H : (if bq22 = true then (impl_Heap_reach.l0 k1 l2 x7_1 y251 l0_0 l0_1 l0_2) else (if 0 < l2.length then (if (rd x8_1 (ji13)) < (l2.length : Int) then (if (rdOf false l2 (rd x8_1 (ji13)) = true) then (if (rd x8_1 (ji13)) < (l0_0.length : Int) then (if y251.length + (rd_L1 l0_0 (rd x8_1 (ji13))).length < 17592186044416 then (impl_Heap_reach.l0 k1 l2 (x7_1.set ((rd x8_1 (ji13)) : Int).toNat true) (y251 ++ (rd_L1 l0_0 (rd x8_1 (ji13)))) l0_0 l0_1 l0_2) else (none)) else (none)) else (impl_Heap_reach.l0 k1 l2 x7_1 y251 l0_0 l0_1 l0_2)) else (none)) else (none))) = some r := by rw [← hbq22] at H; exact H
                        have Nbq22 := Aside0.mk hbq22
                        clear hbq22
                        by_cases c23 : bq22 = true
                        · subst c23
                          have H1 : (impl_Heap_reach.l0 k1 l2 x7_1 y251 l0_0 l0_1 l0_2) = some r := by rw [if_pos rfl] at H; exact H
                          clear H
                          have H := H1
                          clear H1
                          have H' := Aside0.mk H
                          clear H
                          obtain ⟨Ao24, co24, eo24⟩ := Kd.R_slice HO_8.out
                          subst eo24
                          have p250 : 0 ≤ ((ji13) : Int) := of_decide_eq_true (by first | (with_reducible assumption) | assumption)
                          have q250 : (ji13) < (x8_1.length : Int) := of_decide_eq_true (by first | (with_reducible assumption) | assumption)
                          obtain ⟨ad250, e250, hx250_0⟩ := Kd.at_int (Kd.R_reads' HO_8.out).2.2 (ji13) p250 q250
                          cases e250
                          replace p250 := eq_true p250
                          replace q250 := eq_true q250
                          have q25 : ((ji13) : Int) ≤ ((x8_1.length : Int) : Int) := of_decide_eq_true (by first | (with_reducible assumption) | assumption)
                          obtain ⟨i025, hi025, _, hsz25, _⟩ := info_parts info3
                          have hcut25 := cut_to (P := Try.prog) 24 3 .i64 Try.underlying24 hi025 (some ad250) x8_1.length co24 (ji13) (of_decide_eq_true (by first | (with_reducible assumption) | assumption)) q25 (Kd.R_reads' HO_8.out).2.1
                          have hr25 := Kd.R_take (m := ((ji13) : Int).toNat) HO_8.out (by omega)
                          have hy25 : y251.length = ((ji13) : Int).toNat := (by rw [Ny251.out, List.length_take]; omega)
                          rw [← Ny251.out] at hr25
                          rw [← hy25] at hr25 hcut25
                          clear hy25 hi025 hsz25 HO_8
                          have HO253 := Aside0.mk hr25
                          clear hr25
                          replace q25 := eq_true q25
                          obtain ⟨Ao26, co26, eo26⟩ := Kd.R_slice HO_7.out
                          subst eo26
                          have p254 : 0 ≤ ((rd x8_1 (ji13)) : Int) := of_decide_eq_true (by first | (with_reducible assumption) | assumption)
                          have q254 : (rd x8_1 (ji13)) < (x7_1.length : Int) := of_decide_eq_true (by first | (with_reducible assumption) | assumption)
                          obtain ⟨ad254, e254, hx254_0⟩ := Kd.at_bool (Kd.R_reads' HO_7.out).2.2 (rd x8_1 (ji13)) p254 q254
                          (try rw [← Nbq22.out] at hx254_0)
                          cases e254
                          replace p254 := eq_true p254
                          replace q254 := eq_true q254
                          go_wp2
                          go_roundg k1
                          case measure => have := HK1.out; omega
                          case rel => exact ⟨(x7_1), (y251), H', ⟨by have := HK1.out; omega⟩, ⟨by (with_reducible repeat (first | apply Kd.R_alloc | apply Kd.R_drewN | apply Kd.R_drew)); exact HO_7.out⟩, ⟨by (with_reducible repeat (first | apply Kd.R_alloc | apply Kd.R_drewN | apply Kd.R_drew)); exact HO253.out⟩, ⟨by first | with_reducible exact BK243.out | with_reducible exact blk_drewN BK243.out _ | ((with_reducible repeat (first | refine blk_drewN ?_ _ | refine blk_drew ?_ | refine blk_alloc ?_ _)); exact BK243.out)⟩, ⟨by repeat (first | (with_reducible first | exact HB.out | apply below_alloc | apply pw_below_drewN | apply below_drew1 | refine below_set ?_ GE243.out) | exact HB.out)⟩⟩
                        · replace c23 := Bool.eq_false_iff.mpr c23
                          subst c23
                          have H1 : (if 0 < l2.length then (if (rd x8_1 (ji13)) < (l2.length : Int) then (if (rdOf false l2 (rd x8_1 (ji13)) = true) then (if (rd x8_1 (ji13)) < (l0_0.length : Int) then (if y251.length + (rd_L1 l0_0 (rd x8_1 (ji13))).length < 17592186044416 then (impl_Heap_reach.l0 k1 l2 (x7_1.set ((rd x8_1 (ji13)) : Int).toNat true) (y251 ++ (rd_L1 l0_0 (rd x8_1 (ji13)))) l0_0 l0_1 l0_2) else (none)) else (none)) else (impl_Heap_reach.l0 k1 l2 x7_1 y251 l0_0 l0_1 l0_2)) else (none)) else (none)) = some r := by rw [if_neg (show ¬ (false = true) by decide)] at H; exact H
                          clear H
                          have H := H1
                          clear H1
                          by_cases c27 : 0 < l2.length
                          · rw [if_pos c27] at H
                            have hq_ := hq0_ c27
                            have c27b0 := eq_true c27
                            have c27b1 : decide (0 < l2.length) = true := decide_eq_true c27
                            clear c27
                            by_cases c28 : (rd x8_1 (ji13)) < (l2.length : Int)
                            · rw [if_pos c28] at H
                              have c28b0 : decide ((rd x8_1 (ji13)) < (l2.length : Int)) = true := decide_eq_true c28
                              clear c28
                              obtain ⟨bq29, hbq29⟩ : ∃ b_ : Bool, b_ = (rdOf false l2 (rd x8_1 (ji13))) := ⟨_, rfl⟩
                              replace H : (if (bq29 = true) then (if (rd x8_1 (ji13)) < (l0_0.length : Int) then (if y251.length + (rd_L1 l0_0 (rd x8_1 (ji13))).length < 17592186044416 then (impl_Heap_reach.l0 k1 l2 (x7_1.set ((rd x8_1 (ji13)) : Int).toNat true) (y251 ++ (rd_L1 l0_0 (rd x8_1 (ji13)))) l0_0 l0_1 l0_2) else (none)) else (none)) else (impl_Heap_reach.l0 k1 l2 x7_1 y251 l0_0 l0_1 l0_2)) = some r := by rw [← hbq29] at H; exact H
                              have Nbq29 := Aside0.mk hbq29
                              clear hbq29
                              by_cases c30 : (bq29 = true)
                              · subst c30
                                have H1 : (if (rd x8_1 (ji13)) < (l0_0.length : Int) then (if y251.length + (rd_L1 l0_0 (rd x8_1 (ji13))).length < 17592186044416 then (impl_Heap_reach.l0 k1 l2 (x7_1.set ((rd x8_1 (ji13)) : Int).toNat true) (y251 ++ (rd_L1 l0_0 (rd x8_1 (ji13)))) l0_0 l0_1 l0_2) else (none)) else (none)) = some r := by rw [if_pos rfl] at H; exact H
                                clear H
                                have H := H1
                                clear H1
                                obtain ⟨y256, hy256⟩ : ∃ y_ : List Bool, y_ = (x7_1.set ((rd x8_1 (ji13)) : Int).toNat true) := ⟨_, rfl⟩
                                replace H : (if (rd x8_1 (ji13)) < (l0_0.length : Int) then (if y251.length + (rd_L1 l0_0 (rd x8_1 (ji13))).length < 17592186044416 then (impl_Heap_reach.l0 k1 l2 y256 (y251 ++ (rd_L1 l0_0 (rd x8_1 (ji13)))) l0_0 l0_1 l0_2) else (none)) else (none)) = some r := by first | (rw [hy256]; with_reducible exact H) | (have H2_ := (Option.bind_some _ _).symm.trans H; rw [hy256]; with_reducible exact H2_) | (have H2_ := (Option.bind_some _ _).symm.trans H; with_reducible exact H2_) | with_reducible exact H | (rw [hy256]; exact H) | exact H
                                have Ny256 := Aside0.mk hy256
                                clear hy256
                                by_cases c32 : (rd x8_1 (ji13)) < (l0_0.length : Int)
                                · rw [if_pos c32] at H
                                  have c32b0 : decide ((rd x8_1 (ji13)) < (l0_0.length : Int)) = true := decide_eq_true c32
                                  clear c32
                                  by_cases c33 : y251.length + (rd_L1 l0_0 (rd x8_1 (ji13))).length < 17592186044416
                                  · rw [if_pos c33] at H
                                    have LMc33 := Aside0.mk c33
                                    clear c33
                                    obtain ⟨y258, hy258⟩ : ∃ y_ : List Int, y_ = (y251 ++ (rd_L1 l0_0 (rd x8_1 (ji13)))) := ⟨_, rfl⟩
                                    replace H : (impl_Heap_reach.l0 k1 l2 y256 y258 l0_0 l0_1 l0_2) = some r := by first | (rw [hy258]; with_reducible exact H) | (have H2_ := (Option.bind_some _ _).symm.trans H; rw [hy258]; with_reducible exact H2_) | (have H2_ := (Option.bind_some _ _).symm.trans H; with_reducible exact H2_) | with_reducible exact H | (rw [hy258]; exact H) | exact H
                                    have Ny258 := Aside0.mk hy258
                                    clear hy258
                                    have H' := Aside0.mk H
                                    clear H
                                    obtain ⟨Ao34, co34, eo34⟩ := Kd.R_slice HO_8.out
                                    subst eo34
                                    have p250 : 0 ≤ ((ji13) : Int) := of_decide_eq_true (by first | (with_reducible assumption) | assumption)
                                    have q250 : (ji13) < (x8_1.length : Int) := of_decide_eq_true (by first | (with_reducible assumption) | assumption)
                                    obtain ⟨ad250, e250, hx250_0⟩ := Kd.at_int (Kd.R_reads' HO_8.out).2.2 (ji13) p250 q250
                                    cases e250
                                    replace p250 := eq_true p250
                                    replace q250 := eq_true q250
                                    have q35 : ((ji13) : Int) ≤ ((x8_1.length : Int) : Int) := of_decide_eq_true (by first | (with_reducible assumption) | assumption)
                                    obtain ⟨i035, hi035, _, hsz35, _⟩ := info_parts info3
                                    have hcut35 := cut_to (P := Try.prog) 24 3 .i64 Try.underlying24 hi035 (some ad250) x8_1.length co34 (ji13) (of_decide_eq_true (by first | (with_reducible assumption) | assumption)) q35 (Kd.R_reads' HO_8.out).2.1
                                    have hr35 := Kd.R_take (m := ((ji13) : Int).toNat) HO_8.out (by omega)
                                    have hy35 : y251.length = ((ji13) : Int).toNat := (by rw [Ny251.out, List.length_take]; omega)
                                    rw [← Ny251.out] at hr35
                                    rw [← hy35] at hr35 hcut35
                                    clear hy35 hi035 hsz35 HO_8
                                    have HO253 := Aside0.mk hr35
                                    clear hr35
                                    replace q35 := eq_true q35
                                    obtain ⟨Ao36, co36, eo36⟩ := Kd.R_slice HO_7.out
                                    subst eo36
                                    have p254 : 0 ≤ ((rd x8_1 (ji13)) : Int) := of_decide_eq_true (by first | (with_reducible assumption) | assumption)
                                    have q254 : (rd x8_1 (ji13)) < (x7_1.length : Int) := of_decide_eq_true (by first | (with_reducible assumption) | assumption)
                                    obtain ⟨ad254, e254, hx254_0⟩ := Kd.at_bool (Kd.R_reads' HO_7.out).2.2 (rd x8_1 (ji13)) p254 q254
                                    (try rw [← Nbq22.out] at hx254_0)
                                    (try rw [← Nbq29.out] at hx254_0)
                                    cases e254
                                    replace p254 := eq_true p254
                                    replace q254 := eq_true q254
                                    have p255 : 0 ≤ ((rd x8_1 (ji13)) : Int) := of_decide_eq_true (by first | (with_reducible assumption) | assumption)
                                    have q255 : (rd x8_1 (ji13)) < (l2.length : Int) := of_decide_eq_true (by first | (with_reducible assumption) | assumption)
                                    obtain ⟨ad255, e255, hx255_0⟩ := Kd.at_bool HR2.out (rd x8_1 (ji13)) p255 q255
                                    (try rw [← Nbq22.out] at hx255_0)
                                    (try rw [← Nbq29.out] at hx255_0)
                                    cases e255
                                    replace hx255_0 := (HB.out.cell (World.block_lt_of_cell? w _ hx255_0)).trans hx255_0
                                    replace p255 := eq_true p255
                                    replace q255 := eq_true q255
                                    have p31 : 0 ≤ ((rd x8_1 (ji13)) : Int) := of_decide_eq_true (by first | (with_reducible assumption) | assumption)
                                    have q31 : ((rd x8_1 (ji13)) : Int) < ((x7_1.length : Int) : Int) := of_decide_eq_true (by first | (with_reducible assumption) | assumption)
                                    obtain ⟨go31, co31, eo31, gb31, gl31, cl31, HG31⟩ := Kd.R_form HO_7.out (by omega)
                                    (first | cases eo31 | (injection eo31 with ea_ en_ ec_; (first | subst ea_ | (injection ea_ with ea_; subst ea_)); subst ec_; clear en_))
                                    have GB31 := Aside0.mk gb31
                                    have GG31 := Aside0.mk HG31
                                    clear gb31 gl31 HG31
                                    (first | simp only [add_plain] at hx254_0 | skip)
                                    obtain ⟨hx31_0, hf31_0⟩ := Kd.R_celln false HO_7.out ((rd x8_1 (ji13)) : Int) p31 q31
                                    replace p31 := eq_true p31
                                    replace q31 := eq_true q31
                                    have HP37 := Kd.R_putg HO_7.out ((rd x8_1 (ji13)) : Int) true
                                    go_wp2_with (first | ((with_reducible refine gate_store (t := 4) (p := 51) rfl ?_); refine store_event (t := 4) (p := 51) (v := ?vo_w38) (w1 := (wr.setCell ⟨go31, ((rd x8_1 (ji13)) : Int).toNat, none⟩ (.bool true))) ?hg ?ho ?hn ?hr ?_; (case ho => rfl); (case hg => rfl); (case hn => rfl); (case hr => first | (go_simp; done) | (go_simp; rfl)); intro w38 hw; have hg : wr.grownBy w38 (some go31) := (by rw [hw]; exact HP37.2); have hp_ : Kd.R Kd.bool 4 w38 w.heap.size (fun _ => True) (.slice (some ⟨go31, 0, none⟩) x7_1.length co36) y256 := (by rw [hw, Ny256.out]; exact HP37.1); clear HP37; have n0_ := Aside0.mk (hp_); have n1_ := Aside0.mk (Kd.R_over' (v := (.slice (some ⟨go31, 0, none⟩) x7_1.length co36)) (by (with_reducible repeat (first | apply Kd.R_alloc | apply Kd.R_drewN | apply Kd.R_drew)); exact HO253.out) (Kd.R_typed HO_7.out) (by decide) hg); have n2_ := Aside0.mk (blk_grown (g := gb243) (o := .cells #[.slice A0_0 l0_0.length c0_0, .slice A0_1 l0_1.length c0_1, .slice A0_2 l0_2.length c0_2] 30 (0, 0)) (by first | with_reducible exact BK243.out | with_reducible exact blk_drewN BK243.out _ | ((with_reducible repeat (first | refine blk_drewN ?_ _ | refine blk_drew ?_ | refine blk_alloc ?_ _)); exact BK243.out)) hg (Kd.R_ne HO_7.out BK243.out (by decide))); have n3_ := Aside0.mk ((by rw [hw]; exact below_set (HB.out) GB31.out : Below w.heap.size w w38)); clear HO_7; clear HO253; clear BK243; clear HB; have HO_7 := n0_; have HO253 := n1_; have BK243 := n2_; have HB := n3_; clear n0_ n1_ n2_ n3_; clear hg hw hp_; have hcz39_0 : w38.cell? ⟨gb243, 0, none⟩ = some (.slice A0_0 l0_0.length c0_0) := (blk_cell BK243.out 0).trans rfl; have hcz39_1 : w38.cell? ⟨gb243, 1, none⟩ = some (.slice A0_1 l0_1.length c0_1) := (blk_cell BK243.out 1).trans rfl; have hcz39_2 : w38.cell? ⟨gb243, 2, none⟩ = some (.slice A0_2 l0_2.length c0_2) := (blk_cell BK243.out 2).trans rfl; have hfz39_0 := blk_frozen BK243.out 0; have hfz39_1 := blk_frozen BK243.out 1; have hfz39_2 := blk_frozen BK243.out 2; have p257 : 0 ≤ ((rd x8_1 (ji13)) : Int) := of_decide_eq_true (by first | (with_reducible assumption) | assumption); have q257 : (rd x8_1 (ji13)) < (l0_0.length : Int) := of_decide_eq_true (by first | (with_reducible assumption) | assumption); obtain ⟨ad257, A257_0, c257_0, e257, hx257_0, hl257_0, hi257_0⟩ := at_L1 HR0_0.out (rd x8_1 (ji13)) p257 q257; cases e257; replace hx257_0 := (HB.out.cell (World.block_lt_of_cell? w _ hx257_0)).trans hx257_0; have HR257_0 := Aside0.mk hi257_0; have HC257_0 := Aside0.mk hl257_0; clear hi257_0 hl257_0; replace p257 := eq_true p257; replace q257 := eq_true q257) | ((with_reducible refine gate_builtin (b := .append) (xs := #[.tmp 52, .tmp 57]) rfl ?_); at_builtin; refine Kd.R_append_rows (Kd.int .i64) (w0 := w) w.heap.size rfl (.tmp 52) (.tmp 57) 24 3 (.int .i64 0) 8 rfl Try.underlying24 info3 rfl (by decide) (by omega) (.slice (some ad250) y251.length co34) y251 (rd_L1 l0_0 (rd x8_1 (ji13))) _ _ _ (fun _ => True) (fun _ => False) rfl rfl ?aO ?aR (fun _ _ h => h) (fun _ h => h.elim) ?aF ?aB ?aS ?aL ?_; (case aR => repeat (first | exact (Kd.C_below HR257_0.out HB.out) | (with_reducible refine Kd.C_alloc ?_ _) | (with_reducible refine Kd.C_drewN ?_ _) | (with_reducible refine Kd.C_drew ?_))); (case aB => exact (by repeat (first | (with_reducible first | exact HB.out | apply below_alloc | apply pw_below_drewN | apply below_drew1 | refine below_set ?_ GE243.out) | exact HB.out))); (case aF => exact (fun _ _ => trivial)); (case aO => exact (by (with_reducible repeat (first | apply Kd.R_alloc | apply Kd.R_drewN | apply Kd.R_drew)); exact HO253.out)); (case aS => exact (below_size (by repeat (first | (with_reducible first | exact HB.out | apply below_alloc | apply pw_below_drewN | apply below_drew1 | refine below_set ?_ GE243.out) | exact HB.out)))); (case aL => have := LMc33.out; omega); intro v259 w40 ho hb hg hat; rw [← Ny258.out] at ho; have n0_ := Aside0.mk (Kd.R_over' (by (with_reducible repeat (first | apply Kd.R_alloc | apply Kd.R_drewN | apply Kd.R_drew)); exact HO_7.out) (Kd.R_typed (by (with_reducible repeat (first | apply Kd.R_alloc | apply Kd.R_drewN | apply Kd.R_drew)); exact HO253.out)) (by decide) hg); have n1_ := Aside0.mk (blk_grown (g := gb243) (o := .cells #[.slice (some ad257) l0_0.length c0_0, .slice A0_1 l0_1.length c0_1, .slice A0_2 l0_2.length c0_2] 30 (0, 0)) (by first | with_reducible exact BK243.out | with_reducible exact blk_drewN BK243.out _ | ((with_reducible repeat (first | refine blk_drewN ?_ _ | refine blk_drew ?_ | refine blk_alloc ?_ _)); exact BK243.out)) hg (Kd.R_ne HO253.out BK243.out (by decide))); have n2_ := Aside0.mk (hb); have n3_ := Aside0.mk (ho); clear HO_7; clear BK243; clear HB; clear HO253; have HO_7 := n0_; have BK243 := n1_; have HB := n2_; have HO260 := n3_; clear n0_ n1_ n2_ n3_; clear ho hb hg hat))
                                    go_roundg k1
                                    case measure => have := HK1.out; omega
                                    case rel => exact ⟨(y256), (y258), H', ⟨by have := HK1.out; omega⟩, ⟨by (with_reducible repeat (first | apply Kd.R_alloc | apply Kd.R_drewN | apply Kd.R_drew)); exact HO_7.out⟩, ⟨by (with_reducible repeat (first | apply Kd.R_alloc | apply Kd.R_drewN | apply Kd.R_drew)); exact HO260.out⟩, ⟨by first | with_reducible exact BK243.out | with_reducible exact blk_drewN BK243.out _ | ((with_reducible repeat (first | refine blk_drewN ?_ _ | refine blk_drew ?_ | refine blk_alloc ?_ _)); exact BK243.out)⟩, ⟨by repeat (first | (with_reducible first | exact HB.out | apply below_alloc | apply pw_below_drewN | apply below_drew1 | refine below_set ?_ GE243.out) | exact HB.out)⟩⟩
                                  · rw [if_neg c33] at H
                                    exact absurd H (by simp)
                                · rw [if_neg c32] at H
                                  exact absurd H (by simp)
                              · replace c30 := Bool.eq_false_iff.mpr c30
                                subst c30
                                have H1 : (impl_Heap_reach.l0 k1 l2 x7_1 y251 l0_0 l0_1 l0_2) = some r := by rw [if_neg (show ¬ (false = true) by decide)] at H; exact H
                                clear H
                                have H := H1
                                clear H1
                                have H' := Aside0.mk H
                                clear H
                                obtain ⟨Ao41, co41, eo41⟩ := Kd.R_slice HO_8.out
                                subst eo41
                                have p250 : 0 ≤ ((ji13) : Int) := of_decide_eq_true (by first | (with_reducible assumption) | assumption)
                                have q250 : (ji13) < (x8_1.length : Int) := of_decide_eq_true (by first | (with_reducible assumption) | assumption)
                                obtain ⟨ad250, e250, hx250_0⟩ := Kd.at_int (Kd.R_reads' HO_8.out).2.2 (ji13) p250 q250
                                cases e250
                                replace p250 := eq_true p250
                                replace q250 := eq_true q250
                                have q42 : ((ji13) : Int) ≤ ((x8_1.length : Int) : Int) := of_decide_eq_true (by first | (with_reducible assumption) | assumption)
                                obtain ⟨i042, hi042, _, hsz42, _⟩ := info_parts info3
                                have hcut42 := cut_to (P := Try.prog) 24 3 .i64 Try.underlying24 hi042 (some ad250) x8_1.length co41 (ji13) (of_decide_eq_true (by first | (with_reducible assumption) | assumption)) q42 (Kd.R_reads' HO_8.out).2.1
                                have hr42 := Kd.R_take (m := ((ji13) : Int).toNat) HO_8.out (by omega)
                                have hy42 : y251.length = ((ji13) : Int).toNat := (by rw [Ny251.out, List.length_take]; omega)
                                rw [← Ny251.out] at hr42
                                rw [← hy42] at hr42 hcut42
                                clear hy42 hi042 hsz42 HO_8
                                have HO253 := Aside0.mk hr42
                                clear hr42
                                replace q42 := eq_true q42
                                obtain ⟨Ao43, co43, eo43⟩ := Kd.R_slice HO_7.out
                                subst eo43
                                have p254 : 0 ≤ ((rd x8_1 (ji13)) : Int) := of_decide_eq_true (by first | (with_reducible assumption) | assumption)
                                have q254 : (rd x8_1 (ji13)) < (x7_1.length : Int) := of_decide_eq_true (by first | (with_reducible assumption) | assumption)
                                obtain ⟨ad254, e254, hx254_0⟩ := Kd.at_bool (Kd.R_reads' HO_7.out).2.2 (rd x8_1 (ji13)) p254 q254
                                (try rw [← Nbq22.out] at hx254_0)
                                (try rw [← Nbq29.out] at hx254_0)
                                cases e254
                                replace p254 := eq_true p254
                                replace q254 := eq_true q254
                                have p255 : 0 ≤ ((rd x8_1 (ji13)) : Int) := of_decide_eq_true (by first | (with_reducible assumption) | assumption)
                                have q255 : (rd x8_1 (ji13)) < (l2.length : Int) := of_decide_eq_true (by first | (with_reducible assumption) | assumption)
                                obtain ⟨ad255, e255, hx255_0⟩ := Kd.at_bool HR2.out (rd x8_1 (ji13)) p255 q255
                                (try rw [← Nbq22.out] at hx255_0)
                                (try rw [← Nbq29.out] at hx255_0)
                                cases e255
                                replace hx255_0 := (HB.out.cell (World.block_lt_of_cell? w _ hx255_0)).trans hx255_0
                                replace p255 := eq_true p255
                                replace q255 := eq_true q255
                                go_wp2
                                go_roundg k1
                                case measure => have := HK1.out; omega
                                case rel => exact ⟨(x7_1), (y251), H', ⟨by have := HK1.out; omega⟩, ⟨by (with_reducible repeat (first | apply Kd.R_alloc | apply Kd.R_drewN | apply Kd.R_drew)); exact HO_7.out⟩, ⟨by (with_reducible repeat (first | apply Kd.R_alloc | apply Kd.R_drewN | apply Kd.R_drew)); exact HO253.out⟩, ⟨by first | with_reducible exact BK243.out | with_reducible exact blk_drewN BK243.out _ | ((with_reducible repeat (first | refine blk_drewN ?_ _ | refine blk_drew ?_ | refine blk_alloc ?_ _)); exact BK243.out)⟩, ⟨by repeat (first | (with_reducible first | exact HB.out | apply below_alloc | apply pw_below_drewN | apply below_drew1 | refine below_set ?_ GE243.out) | exact HB.out)⟩⟩
                            · rw [if_neg c28] at H
                              exact absurd H (by simp)
                          · rw [if_neg c27] at H
                            exact absurd H (by simp)
                      · rw [if_neg c21] at H
                        exact absurd H (by simp)
                    · rw [if_neg c20] at H
                      exact absurd H (by simp)
                · rw [if_neg c16] at H
                  exact absurd H (by simp)
              · rw [if_neg c15] at H
                exact absurd H (by simp)
            · rw [if_neg c14] at H
              exact absurd H (by simp)
          · rw [if_neg c12] at H
            have c12b0 : decide (0 < (x8_1.length : Int)) = false := decide_eq_false c12
            have c12b1 : decide (0 < x8_1.length) = false := decide_eq_false (by omega)
            clear c12
            obtain rfl := Option.some.inj H
            obtain ⟨Ao44, co44, eo44⟩ := Kd.R_slice HO_8.out
            subst eo44
            go_wp2
            go_ret
            exact ⟨_, by first | rfl | (simp [errW_none, errW_some] <;> rfl) | (simp [*, errW_none, errW_some] <;> rfl), by (with_reducible repeat (first | apply Kd.R_alloc | apply Kd.R_drewN | apply Kd.R_drew)); exact HO_7.out, by repeat (first | (with_reducible first | exact HB.out | apply below_alloc | apply pw_below_drewN | apply below_drew1 | refine below_set ?_ GE243.out) | exact HB.out)⟩
    · rw [if_neg c5] at H
      exact absurd H (by simp)
  · rw [if_neg c4] at H
    exact absurd H (by simp)

/-! ### impl_Heap_reached: function 44 -/
def impl_Heap_reached.f (k : Nat) (l0_0 : List (List Int)) (l0_1 : List Bool) (l0_2 : List Int) : Option (List Bool) := (impl_Heap_reach_nil.f k l0_0 l0_1 l0_2 l0_2 ([] : List Bool)).bind fun t262 => (some t262)
theorem impl_Heap_reached.mono : ∀ a0 a1 a2 k, LeO (impl_Heap_reached.f k a0 a1 a2) (impl_Heap_reached.f (k + 1) a0 a1 a2) := by
  intro a0 a1 a2 k
  unfold impl_Heap_reached.f
  repeat' first
      | (with_reducible exact impl_Heap_reach_nil.mono _ _ _ _ _ _)
      | (with_reducible exact LeO.refl _)
      | (with_reducible exact LeO.none _)
      | (with_reducible refine LeO.ite ?_ ?_)
      | (with_reducible refine LeO.bind ?_ (fun _ => ?_))
      | exact impl_Heap_reach_nil.mono _ _ _ _ _ _
      | exact LeO.none _
      | refine LeO.ite ?_ ?_
      | refine LeO.bind ?_ (fun _ => ?_)
set_option maxHeartbeats 8000000 in
set_option maxRecDepth 100000 in
theorem impl_Heap_reached.calls (k : Nat) (A0_0 : Option Addr) (c0_0 : Nat) (l0_0 : List (List Int)) (A0_1 : Option Addr) (c0_1 : Nat) (l0_1 : List Bool) (A0_2 : Option Addr) (c0_2 : Nat) (l0_2 : List Int) (r : List Bool) (w : World) (hr0_0 : Kd.C (Kd.slice 3 (Kd.int .i64)) w A0_0 l0_0.length l0_0) (hc0_0 : l0_0.length ≤ c0_0) (hr0_1 : Kd.C Kd.bool w A0_1 l0_1.length l0_1) (hc0_1 : l0_1.length ≤ c0_1) (hr0_2 : Kd.C (Kd.int .i64) w A0_2 l0_2.length l0_2) (hc0_2 : l0_2.length ≤ c0_2) (h : impl_Heap_reached.f k l0_0 l0_1 l0_2 = some r) :
    Calls Try.prog 44 #[.agg #[.slice A0_0 l0_0.length c0_0, .slice A0_1 l0_1.length c0_1, .slice A0_2 l0_2.length c0_2]] w fun e w' => ∃ v0_ : Value, e = .returned (v0_) ∧ Kd.R Kd.bool 4 w' w.heap.size (fun _ => True) v0_ r ∧ Below w.heap.size w w' := by
  have hu30 := Try.underlying30
  have HR0_0 := Aside0.mk hr0_0
  have HC0_0 := Aside0.mk hc0_0
  clear hr0_0 hc0_0
  have HR0_1 := Aside0.mk hr0_1
  have HC0_1 := Aside0.mk hc0_1
  clear hr0_1 hc0_1
  have HR0_2 := Aside0.mk hr0_2
  have HC0_2 := Aside0.mk hc0_2
  clear hr0_2 hc0_2
  have HB := Aside0.mk (Below.refl w.heap.size w)
  have H : ((impl_Heap_reach_nil.f k l0_0 l0_1 l0_2 l0_2 ([] : List Bool)).bind fun t262 => (some t262)) = some r := h
  clear h
  replace H := Option.bind_eq_some_iff.mp H
  obtain ⟨t262, A20, H⟩ := H
  replace H : (some t262) = some r := H
  have A2 := Aside0.mk A20
  clear A20
  obtain rfl := Option.some.inj H
  go_enter Try.func44, Try.ntmps44
  go_wp2_with (first | ((with_reducible refine gate_dst (N := 1) rfl ?_); refine box_event ?hg (N := 1) ?hd (cs := #[.slice A0_0 l0_0.length c0_0, .slice A0_1 l0_1.length c0_1, .slice A0_2 l0_2.length c0_2]) (t := 30) ?hr ?_; (case hd => rfl); (case hg => rfl); (case hr => first | (go_simp; done) | (go_simp; rfl)); intro gb261 hg w3 hbox hb; have n0_ := Aside0.mk (below_step (by repeat (first | (with_reducible first | exact HB.out | apply below_alloc | apply pw_below_drewN | apply below_drew1) | exact HB.out)) hb); have n1_ := Aside0.mk (hbox); have n2_ := Aside0.mk ((by rw [hg]; exact (below_size (by repeat (first | (with_reducible first | exact HB.out | apply below_alloc | apply pw_below_drewN | apply below_drew1) | exact HB.out))) : w.heap.size ≤ gb261)); have n3_ := Aside0.mk ((by rw [hg]; exact (below_size (by repeat (first | (with_reducible first | exact HB.out | apply below_alloc | apply pw_below_drewN | apply below_drew1) | exact HB.out))) : w.heap.size ≤ gb261)); clear HB; have HB := n0_; have BK261 := n1_; have GW261 := n2_; have GE261 := n3_; clear n0_ n1_ n2_ n3_; clear hb hbox hg; have hcz4_0 : w3.cell? ⟨gb261, 0, none⟩ = some (.slice A0_0 l0_0.length c0_0) := (blk_cell BK261.out 0).trans rfl; have hcz4_1 : w3.cell? ⟨gb261, 1, none⟩ = some (.slice A0_1 l0_1.length c0_1) := (blk_cell BK261.out 1).trans rfl; have hcz4_2 : w3.cell? ⟨gb261, 2, none⟩ = some (.slice A0_2 l0_2.length c0_2) := (blk_cell BK261.out 2).trans rfl; have hfz4_0 := blk_frozen BK261.out 0; have hfz4_1 := blk_frozen BK261.out 1; have hfz4_2 := blk_frozen BK261.out 2) | ((with_reducible refine gate_callee (f := 51) rfl ?_); refine goesL_ (some 6) rfl rfl Try.func51 (by kernel_rfl) rfl #[.agg #[.slice A0_0 l0_0.length c0_0, .slice A0_1 l0_1.length c0_1, .slice A0_2 l0_2.length c0_2], .slice A0_2 l0_2.length c0_2, .slice none 0 0] rfl (by (try simp only [List.map_toArray, List.map_cons, List.map_nil]); first | done | rfl | (simp only [List.length_drop, List.length_take]; rfl)) ?_; (refine (impl_Heap_reach_nil.calls k _ _ l0_0 _ _ l0_1 _ _ l0_2 _ _ l0_2 none 0 ([] : List Bool) t262 _ ?side1 ?side2 ?side3 ?side4 ?side5 ?side6 ?side7 ?side8 ?side9 ?side10 A2.out).mono ?_); (case side1 => repeat (first | exact (Kd.C_below HR0_0.out HB.out) | (with_reducible refine Kd.C_alloc ?_ _) | (with_reducible refine Kd.C_drewN ?_ _) | (with_reducible refine Kd.C_drew ?_))); (case side2 => exact HC0_0.out); (case side3 => repeat (first | exact (Kd.C_below HR0_1.out HB.out) | (with_reducible refine Kd.C_alloc ?_ _) | (with_reducible refine Kd.C_drewN ?_ _) | (with_reducible refine Kd.C_drew ?_))); (case side4 => exact HC0_1.out); (case side5 => repeat (first | exact (Kd.C_below HR0_2.out HB.out) | (with_reducible refine Kd.C_alloc ?_ _) | (with_reducible refine Kd.C_drewN ?_ _) | (with_reducible refine Kd.C_drew ?_))); (case side6 => exact HC0_2.out); (case side7 => repeat (first | exact (Kd.C_below HR0_2.out HB.out) | (with_reducible refine Kd.C_alloc ?_ _) | (with_reducible refine Kd.C_drewN ?_ _) | (with_reducible refine Kd.C_drew ?_))); (case side8 => exact HC0_2.out); (case side9 => exact Kd.C_nil _ _); (case side10 => exact Nat.le_refl _); rintro e w5 ⟨v263, rfl, ho0, hb⟩; refine ⟨_, rfl, ?_⟩; have n0_ := Aside0.mk (Kd.R_lower ho0 (below_size (by repeat (first | (with_reducible first | exact HB.out | apply below_alloc | apply pw_below_drewN | apply below_drew1 | refine below_set ?_ GE261.out) | exact HB.out)))); have n1_ := Aside0.mk (blk_below (g := gb261) (o := .cells #[.slice A0_0 l0_0.length c0_0, .slice A0_1 l0_1.length c0_1, .slice A0_2 l0_2.length c0_2] 30 (0, 0)) (by first | with_reducible exact BK261.out | with_reducible exact blk_drewN BK261.out _ | ((with_reducible repeat (first | refine blk_drewN ?_ _ | refine blk_drew ?_ | refine blk_alloc ?_ _)); exact BK261.out)) hb); have n2_ := Aside0.mk (below_step (by repeat (first | (with_reducible first | exact HB.out | apply below_alloc | apply pw_below_drewN | apply below_drew1 | refine below_set ?_ GE261.out) | exact HB.out)) hb); clear BK261; clear HB; have HO264 := n0_; have BK261 := n1_; have HB := n2_; clear n0_ n1_ n2_; (try clear hb); (try clear hb2); (try clear hk); (try clear hi); (try clear ho0)))
  go_ret
  exact ⟨_, by first | rfl | (simp [errW_none, errW_some] <;> rfl) | (simp [*, errW_none, errW_some] <;> rfl), by (with_reducible repeat (first | apply Kd.R_alloc | apply Kd.R_drewN | apply Kd.R_drew)); exact HO264.out, by repeat (first | (with_reducible first | exact HB.out | apply below_alloc | apply pw_below_drewN | apply below_drew1 | refine below_set ?_ GE261.out) | exact HB.out)⟩

end Go.Proofs.Ytmchgcilpgbalaa.QFnExactSameReached
