-- Written by a program of the session, a changed copy of the kit's print: not the kit's own print; Lean checks it.
import Derived.Test.YtjedkodimjijeaaQFnExactNewSpanx0
import Derived.Test.YtjedkodimjijeaaQFnExactNewSpanx1
import Derived.Test.YtjedkodimjijeaaQFnExactNewSpanx4
import Derived.Test.YtjedkodimjijeaaQFnExactNewSpanx6
namespace Go.Proofs.Ytjedkodimjijeaa.QFnExactNewSpan
open Go.RowKit Go.Proofs.YtjedkodimjijeaaW.PrintWords Go.Proofs.YtjedkodimjijeaaW.PrintLast Go.Proofs.YtjedkodimjijeaaW.PrintMore
attribute [local go_sem] max2_int min2_int max_two min_two max_three min_three max_four min_four   -- for this text's walks alone
set_option linter.unusedVariables false
set_option linter.unusedSimpArgs false

/-! ### laws_FnExactNewSpan: function 12 -/
mutual
def laws_FnExactNewSpan.j0 : Nat → Int → Int → Bool → Bool → Int → Int → Int → List Int → Int → Int → Int → List Int → Option (Bool)
  | 0, _, _, _, _, _, _, _, _, _, _, _, _ => none
  | k + 1, x0, x1, x6, x33, x226000, x226001, x226002, x226003, x234000, x234001, x234002, x234003 => if x33 = true then (some false) else ((laws_markSpan.f k x234000 x234001 x234002 x234003 1).bind fun bt235 => ((laws_heldSpan.f k x234000 x234001 x234002 bt235.2 1).bind fun t237 => (if t237 < 0 then (some false) else (if t237 = bt235.1 then ((impl_NewSpan.f k x0 x1).bind fun bt238 => ((laws_eqSpan.f k bt238.1 bt238.2.1 bt238.2.2.1 bt238.2.2.2.1 x226000 x226001 x226002 x226003).bind fun t246 => (if t246 = true then (laws_FnExactNewSpan.j1 k bt235.1 (bt238.2.2.2.2 != x6) x234000 x234001 x234002 bt235.2) else (laws_FnExactNewSpan.j1 k bt235.1 true x234000 x234001 x234002 bt235.2)))) else (some false)))))
def laws_FnExactNewSpan.j1 : Nat → Int → Bool → Int → Int → Int → List Int → Option (Bool)
  | 0, _, _, _, _, _, _ => none
  | k + 1, x9, x59, x234000, x234001, x234002, x234003 => if x59 = true then (some false) else ((laws_heldSpan.f k x234000 x234001 x234002 x234003 1).bind fun t247 => (if t247 < 0 then (some false) else (if t247 = x9 then (some true) else (some false))))
end
def laws_FnExactNewSpan.f (k : Nat) (a0 : Int) (a1 : Int) : Option (Bool) := (spec_NewSpan.f k a0 a1).bind fun bt218 => ((impl_NewSpan.f k a0 a1).bind fun bt226 => ((laws_eqSpan.f k bt226.1 bt226.2.1 bt226.2.2.1 bt226.2.2.2.1 bt218.1 bt218.2.1 bt218.2.2.1 bt218.2.2.2.1).bind fun t234 => (if t234 = true then (laws_FnExactNewSpan.j0 k a0 a1 bt218.2.2.2.2 (bt226.2.2.2.2 != bt218.2.2.2.2) bt218.1 bt218.2.1 bt218.2.2.1 bt218.2.2.2.1 bt226.1 bt226.2.1 bt226.2.2.1 bt226.2.2.2.1) else (laws_FnExactNewSpan.j0 k a0 a1 bt218.2.2.2.2 true bt218.1 bt218.2.1 bt218.2.2.1 bt218.2.2.2.1 bt226.1 bt226.2.1 bt226.2.2.1 bt226.2.2.2.1))))
theorem laws_FnExactNewSpan.mono_l : ∀ k, (∀ y0 y1 y2 y3 y4 y5 y6 y7 y8 y9 y10 y11, LeO (laws_FnExactNewSpan.j0 k y0 y1 y2 y3 y4 y5 y6 y7 y8 y9 y10 y11) (laws_FnExactNewSpan.j0 (k + 1) y0 y1 y2 y3 y4 y5 y6 y7 y8 y9 y10 y11)) ∧ (∀ y0 y1 y2 y3 y4 y5, LeO (laws_FnExactNewSpan.j1 k y0 y1 y2 y3 y4 y5) (laws_FnExactNewSpan.j1 (k + 1) y0 y1 y2 y3 y4 y5))
  | 0 => ⟨fun _ _ _ _ _ _ _ _ _ _ _ _ r h => by simp [laws_FnExactNewSpan.j0] at h, fun _ _ _ _ _ _ r h => by simp [laws_FnExactNewSpan.j1] at h⟩
  | k + 1 => by
    obtain ⟨ih0, ih1⟩ := laws_FnExactNewSpan.mono_l k
    refine ⟨?_, ?_⟩
    · intro y0 y1 y2 y3 y4 y5 y6 y7 y8 y9 y10 y11
      unfold laws_FnExactNewSpan.j0
      repeat' first
      | (with_reducible exact ih0 _ _ _ _ _ _ _ _ _ _ _ _)
      | (with_reducible exact ih1 _ _ _ _ _ _)
      | (with_reducible exact impl_NewSpan.mono _ _ _)
      | (with_reducible exact laws_eqSpan.mono _ _ _ _ _ _ _ _ _)
      | (with_reducible exact laws_heldSpan.mono _ _ _ _ _ _)
      | (with_reducible exact laws_markSpan.mono _ _ _ _ _ _)
      | (with_reducible exact spec_NewSpan.mono _ _ _)
      | (with_reducible exact LeO.refl _)
      | (with_reducible exact LeO.none _)
      | (with_reducible refine LeO.ite ?_ ?_)
      | (with_reducible refine LeO.bind ?_ (fun _ => ?_))
      | exact ih0 _ _ _ _ _ _ _ _ _ _ _ _
      | exact ih1 _ _ _ _ _ _
      | exact impl_NewSpan.mono _ _ _
      | exact laws_eqSpan.mono _ _ _ _ _ _ _ _ _
      | exact laws_heldSpan.mono _ _ _ _ _ _
      | exact laws_markSpan.mono _ _ _ _ _ _
      | exact spec_NewSpan.mono _ _ _
      | exact LeO.none _
      | refine LeO.ite ?_ ?_
      | refine LeO.bind ?_ (fun _ => ?_)
    · intro y0 y1 y2 y3 y4 y5
      unfold laws_FnExactNewSpan.j1
      repeat' first
      | (with_reducible exact ih0 _ _ _ _ _ _ _ _ _ _ _ _)
      | (with_reducible exact ih1 _ _ _ _ _ _)
      | (with_reducible exact impl_NewSpan.mono _ _ _)
      | (with_reducible exact laws_eqSpan.mono _ _ _ _ _ _ _ _ _)
      | (with_reducible exact laws_heldSpan.mono _ _ _ _ _ _)
      | (with_reducible exact laws_markSpan.mono _ _ _ _ _ _)
      | (with_reducible exact spec_NewSpan.mono _ _ _)
      | (with_reducible exact LeO.refl _)
      | (with_reducible exact LeO.none _)
      | (with_reducible refine LeO.ite ?_ ?_)
      | (with_reducible refine LeO.bind ?_ (fun _ => ?_))
      | exact ih0 _ _ _ _ _ _ _ _ _ _ _ _
      | exact ih1 _ _ _ _ _ _
      | exact impl_NewSpan.mono _ _ _
      | exact laws_eqSpan.mono _ _ _ _ _ _ _ _ _
      | exact laws_heldSpan.mono _ _ _ _ _ _
      | exact laws_markSpan.mono _ _ _ _ _ _
      | exact spec_NewSpan.mono _ _ _
      | exact LeO.none _
      | refine LeO.ite ?_ ?_
      | refine LeO.bind ?_ (fun _ => ?_)
theorem laws_FnExactNewSpan.mono : ∀ a0 a1 k, LeO (laws_FnExactNewSpan.f k a0 a1) (laws_FnExactNewSpan.f (k + 1) a0 a1) := by
  intro a0 a1 k
  obtain ⟨ih0, ih1⟩ := laws_FnExactNewSpan.mono_l k
  unfold laws_FnExactNewSpan.f
  repeat' first
      | (with_reducible exact ih0 _ _ _ _ _ _ _ _ _ _ _ _)
      | (with_reducible exact ih1 _ _ _ _ _ _)
      | (with_reducible exact impl_NewSpan.mono _ _ _)
      | (with_reducible exact laws_eqSpan.mono _ _ _ _ _ _ _ _ _)
      | (with_reducible exact laws_heldSpan.mono _ _ _ _ _ _)
      | (with_reducible exact laws_markSpan.mono _ _ _ _ _ _)
      | (with_reducible exact spec_NewSpan.mono _ _ _)
      | (with_reducible exact LeO.refl _)
      | (with_reducible exact LeO.none _)
      | (with_reducible refine LeO.ite ?_ ?_)
      | (with_reducible refine LeO.bind ?_ (fun _ => ?_))
      | exact ih0 _ _ _ _ _ _ _ _ _ _ _ _
      | exact ih1 _ _ _ _ _ _
      | exact impl_NewSpan.mono _ _ _
      | exact laws_eqSpan.mono _ _ _ _ _ _ _ _ _
      | exact laws_heldSpan.mono _ _ _ _ _ _
      | exact laws_markSpan.mono _ _ _ _ _ _
      | exact spec_NewSpan.mono _ _ _
      | exact LeO.none _
      | refine LeO.ite ?_ ?_
      | refine LeO.bind ?_ (fun _ => ?_)
set_option maxHeartbeats 8000000 in
set_option maxRecDepth 100000 in
theorem laws_FnExactNewSpan.calls (k : Nat) (a0 : Int) (a1 : Int) (r : Bool) (w : World) (h : laws_FnExactNewSpan.f k a0 a1 = some r) :
    Calls Try.prog 12 #[.int .i64 a0, .int .i64 a1] w fun e w' => e = .returned (.bool r) ∧ Below w.heap.size w w' := by
  have hu64 := Try.underlying64
  have HB := Aside0.mk (Below.refl w.heap.size w)
  have H : ((spec_NewSpan.f k a0 a1).bind fun bt218 => ((impl_NewSpan.f k a0 a1).bind fun bt226 => ((laws_eqSpan.f k bt226.1 bt226.2.1 bt226.2.2.1 bt226.2.2.2.1 bt218.1 bt218.2.1 bt218.2.2.1 bt218.2.2.2.1).bind fun t234 => (if t234 = true then (laws_FnExactNewSpan.j0 k a0 a1 bt218.2.2.2.2 (bt226.2.2.2.2 != bt218.2.2.2.2) bt218.1 bt218.2.1 bt218.2.2.1 bt218.2.2.2.1 bt226.1 bt226.2.1 bt226.2.2.1 bt226.2.2.2.1) else (laws_FnExactNewSpan.j0 k a0 a1 bt218.2.2.2.2 true bt218.1 bt218.2.1 bt218.2.2.1 bt218.2.2.2.1 bt226.1 bt226.2.1 bt226.2.2.1 bt226.2.2.2.1))))) = some r := h
  clear h
  replace H := Option.bind_eq_some_iff.mp H
  obtain ⟨⟨t218, t219, t220, t221, t224⟩, A30, H⟩ := H
  replace H : ((impl_NewSpan.f k a0 a1).bind fun bt226 => ((laws_eqSpan.f k bt226.1 bt226.2.1 bt226.2.2.1 bt226.2.2.2.1 t218 t219 t220 t221).bind fun t234 => (if t234 = true then (laws_FnExactNewSpan.j0 k a0 a1 t224 (bt226.2.2.2.2 != t224) t218 t219 t220 t221 bt226.1 bt226.2.1 bt226.2.2.1 bt226.2.2.2.1) else (laws_FnExactNewSpan.j0 k a0 a1 t224 true t218 t219 t220 t221 bt226.1 bt226.2.1 bt226.2.2.1 bt226.2.2.2.1)))) = some r := H
  have A3 := Aside0.mk A30
  clear A30
  replace H := Option.bind_eq_some_iff.mp H
  obtain ⟨⟨t226, t227, t228, t229, t232⟩, A40, H⟩ := H
  replace H : ((laws_eqSpan.f k t226 t227 t228 t229 t218 t219 t220 t221).bind fun t234 => (if t234 = true then (laws_FnExactNewSpan.j0 k a0 a1 t224 (t232 != t224) t218 t219 t220 t221 t226 t227 t228 t229) else (laws_FnExactNewSpan.j0 k a0 a1 t224 true t218 t219 t220 t221 t226 t227 t228 t229))) = some r := H
  have A4 := Aside0.mk A40
  clear A40
  have HC5 := Aside0.mk H
  clear H
  go_enter Try.func12, Try.ntmps12
  go_upto_region 3 with (first | ((with_reducible refine gate_callee (f := 49) rfl ?_); refine goesL_ (some 16) rfl rfl Try.func49 (by kernel_rfl) rfl #[.int .i64 a0, .int .i64 a1] rfl (by (try simp only [List.map_toArray, List.map_cons, List.map_nil]); first | done | rfl | (simp only [List.length_drop, List.length_take]; rfl)) ?_; (with_reducible refine (spec_NewSpan.calls k a0 a1 t218 t219 t220 t221 t224 _ A3.out).mono ?_); rintro e w6 ⟨v222, rfl, ho0, hb⟩; refine ⟨_, rfl, ?_⟩; have n0_ := Aside0.mk (Kd.R_lower ho0 (below_size (by repeat (first | (with_reducible first | exact HB.out | apply below_alloc | apply pw_below_drewN | apply below_drew1) | exact HB.out)))); have n1_ := Aside0.mk (below_step (by repeat (first | (with_reducible first | exact HB.out | apply below_alloc | apply pw_below_drewN | apply below_drew1) | exact HB.out)) hb); clear HB; have HO223 := n0_; have HB := n1_; clear n0_ n1_; (try clear hb); (try clear hb2); (try clear hk); (try clear hi); (try clear ho0)) | ((with_reducible refine gate_dst (N := 5) rfl ?_); refine box_event ?hg (N := 5) ?hd (cs := #[.int .i64 0, .int .i64 0, .int .i64 0, .slice none 0 0]) (t := 64) ?hr ?_; (case hd => rfl); (case hg => rfl); (case hr => first | (go_simp; done) | (go_simp; rfl)); intro gb225 hg w7 hbox hb; have n0_ := Aside0.mk (Kd.R_below (by (with_reducible repeat (first | apply Kd.R_alloc | apply Kd.R_drewN | apply Kd.R_drew)); exact HO223.out) hb); have n1_ := Aside0.mk (below_step (by repeat (first | (with_reducible first | exact HB.out | apply below_alloc | apply pw_below_drewN | apply below_drew1) | exact HB.out)) hb); have n2_ := Aside0.mk (hbox); have n3_ := Aside0.mk ((by rw [hg]; exact (below_size (by repeat (first | (with_reducible first | exact HB.out | apply below_alloc | apply pw_below_drewN | apply below_drew1) | exact HB.out))) : w.heap.size ≤ gb225)); have n4_ := Aside0.mk ((by rw [hg]; exact (below_size (by repeat (first | (with_reducible first | exact HB.out | apply below_alloc | apply pw_below_drewN | apply below_drew1) | exact HB.out))) : w.heap.size ≤ gb225)); clear HO223; clear HB; have HO223 := n0_; have HB := n1_; have BK225 := n2_; have GW225 := n3_; have GE225 := n4_; clear n0_ n1_ n2_ n3_ n4_; clear hb hbox hg; have hcz8_0 : w7.cell? ⟨gb225, 0, none⟩ = some (.int .i64 0) := (blk_cell BK225.out 0).trans rfl; have hcz8_1 : w7.cell? ⟨gb225, 1, none⟩ = some (.int .i64 0) := (blk_cell BK225.out 1).trans rfl; have hcz8_2 : w7.cell? ⟨gb225, 2, none⟩ = some (.int .i64 0) := (blk_cell BK225.out 2).trans rfl; have hcz8_3 : w7.cell? ⟨gb225, 3, none⟩ = some (.slice none 0 0) := (blk_cell BK225.out 3).trans rfl; have hfz8_0 := blk_frozen BK225.out 0; have hfz8_1 := blk_frozen BK225.out 1; have hfz8_2 := blk_frozen BK225.out 2; have hfz8_3 := blk_frozen BK225.out 3; obtain ⟨Ao9, co9, eo9⟩ := Kd.R_slice HO223.out; subst eo9) | ((with_reducible refine gate_callee (f := 50) rfl ?_); refine goesL_ (some 22) rfl rfl Try.func50 (by kernel_rfl) rfl #[.int .i64 a0, .int .i64 a1] rfl (by (try simp only [List.map_toArray, List.map_cons, List.map_nil]); first | done | rfl | (simp only [List.length_drop, List.length_take]; rfl)) ?_; (with_reducible refine (impl_NewSpan.calls k a0 a1 t226 t227 t228 t229 t232 _ A4.out).mono ?_); rintro e w10 ⟨v230, rfl, ho0, hb⟩; refine ⟨_, rfl, ?_⟩; have n0_ := Aside0.mk (Kd.R_elder' (by (with_reducible repeat (first | apply Kd.R_alloc | apply Kd.R_drewN | apply Kd.R_drew)); exact (Kd.R_mono (Kd.R_far (p := ⟨gb225, 3, none⟩) (Kd.R_far (p := ⟨gb225, 2, none⟩) (Kd.R_far (p := ⟨gb225, 1, none⟩) (Kd.R_far (p := ⟨gb225, 0, none⟩) (Kd.R_types HO223.out BK225.out (by decide)) (fun _ hk => hk.2) (.int .i64 t218)) (fun _ hk => hk.2) (.int .i64 t219)) (fun _ hk => hk.2) (.int .i64 t220)) (fun _ hk => hk.2) (.slice Ao9 t221.length co9)) (fun _ h_ => h_.1))) (Kd.R_base ho0) hb); have n1_ := Aside0.mk (Kd.R_lower (Kd.R_new' ho0 (Kd.R_lt (by (with_reducible repeat (first | apply Kd.R_alloc | apply Kd.R_drewN | apply Kd.R_drew)); exact (Kd.R_mono (Kd.R_far (p := ⟨gb225, 3, none⟩) (Kd.R_far (p := ⟨gb225, 2, none⟩) (Kd.R_far (p := ⟨gb225, 1, none⟩) (Kd.R_far (p := ⟨gb225, 0, none⟩) (Kd.R_types HO223.out BK225.out (by decide)) (fun _ hk => hk.2) (.int .i64 t218)) (fun _ hk => hk.2) (.int .i64 t219)) (fun _ hk => hk.2) (.int .i64 t220)) (fun _ hk => hk.2) (.slice Ao9 t221.length co9)) (fun _ h_ => h_.1))))) (below_size (by repeat (first | (with_reducible first | exact HB.out | apply below_alloc | apply pw_below_drewN | apply below_drew1 | refine below_set ?_ GE225.out) | exact HB.out)))); have n2_ := Aside0.mk (blk_below (g := gb225) (o := .cells #[.int .i64 t218, .int .i64 t219, .int .i64 t220, .slice Ao9 t221.length co9] 64 (0, 0)) (by (with_reducible repeat (first | refine blk_drewN ?_ _ | refine blk_drew ?_ | refine blk_alloc ?_ _)); refine blk_put (cs := #[.int .i64 t218, .int .i64 t219, .int .i64 t220, .slice none 0 0]) ?_ 3 _ rfl; (with_reducible repeat (first | refine blk_drewN ?_ _ | refine blk_drew ?_ | refine blk_alloc ?_ _)); refine blk_put (cs := #[.int .i64 t218, .int .i64 t219, .int .i64 0, .slice none 0 0]) ?_ 2 _ rfl; (with_reducible repeat (first | refine blk_drewN ?_ _ | refine blk_drew ?_ | refine blk_alloc ?_ _)); refine blk_put (cs := #[.int .i64 t218, .int .i64 0, .int .i64 0, .slice none 0 0]) ?_ 1 _ rfl; (with_reducible repeat (first | refine blk_drewN ?_ _ | refine blk_drew ?_ | refine blk_alloc ?_ _)); refine blk_put (cs := #[.int .i64 0, .int .i64 0, .int .i64 0, .slice none 0 0]) ?_ 0 _ rfl; (with_reducible repeat (first | refine blk_drewN ?_ _ | refine blk_drew ?_ | refine blk_alloc ?_ _)); exact BK225.out) hb); have n3_ := Aside0.mk (below_step (by repeat (first | (with_reducible first | exact HB.out | apply below_alloc | apply pw_below_drewN | apply below_drew1 | refine below_set ?_ GE225.out) | exact HB.out)) hb); clear HO223; clear BK225; clear HB; have HO223 := n0_; have HO231 := n1_; have BK225 := n2_; have HB := n3_; clear n0_ n1_ n2_ n3_; (try clear hb); (try clear hb2); (try clear hk); (try clear hi); (try clear ho0)) | ((with_reducible refine gate_dst (N := 7) rfl ?_); refine box_event ?hg (N := 7) ?hd (cs := #[.int .i64 0, .int .i64 0, .int .i64 0, .slice none 0 0]) (t := 64) ?hr ?_; (case hd => rfl); (case hg => rfl); (case hr => first | (go_simp; done) | (go_simp; rfl)); intro gb233 hg w11 hbox hb; have n0_ := Aside0.mk (Kd.R_below (by (with_reducible repeat (first | apply Kd.R_alloc | apply Kd.R_drewN | apply Kd.R_drew)); exact HO223.out) hb); have n1_ := Aside0.mk (Kd.R_below (by (with_reducible repeat (first | apply Kd.R_alloc | apply Kd.R_drewN | apply Kd.R_drew)); exact HO231.out) hb); have n2_ := Aside0.mk (blk_below (g := gb225) (o := .cells #[.int .i64 t218, .int .i64 t219, .int .i64 t220, .slice Ao9 t221.length co9] 64 (0, 0)) (by (with_reducible repeat (first | refine blk_drewN ?_ _ | refine blk_drew ?_ | refine blk_alloc ?_ _)); exact BK225.out) hb); have n3_ := Aside0.mk (below_step (by repeat (first | (with_reducible first | exact HB.out | apply below_alloc | apply pw_below_drewN | apply below_drew1 | refine below_set ?_ GE225.out) | exact HB.out)) hb); have n4_ := Aside0.mk (hbox); have n5_ := Aside0.mk ((by rw [hg]; exact (below_size (by repeat (first | (with_reducible first | exact HB.out | apply below_alloc | apply pw_below_drewN | apply below_drew1 | refine below_set ?_ GE225.out) | exact HB.out))) : w.heap.size ≤ gb233)); have n6_ := Aside0.mk ((by rw [hg]; exact (below_size (by repeat (first | (with_reducible first | exact HB.out | apply below_alloc | apply pw_below_drewN | apply below_drew1 | refine below_set ?_ GE225.out) | exact HB.out))) : w.heap.size ≤ gb233)); have n7_ := Aside0.mk ((by rw [hg]; exact Nat.ne_of_lt (blk_lt (g := gb225) (o := .cells #[.int .i64 t218, .int .i64 t219, .int .i64 t220, .slice Ao9 t221.length co9] 64 (0, 0)) (by (with_reducible repeat (first | refine blk_drewN ?_ _ | refine blk_drew ?_ | refine blk_alloc ?_ _)); exact BK225.out)) : gb225 ≠ gb233)); have n8_ := Aside0.mk ((by rw [hg]; exact Nat.ne_of_gt (blk_lt (g := gb225) (o := .cells #[.int .i64 t218, .int .i64 t219, .int .i64 t220, .slice Ao9 t221.length co9] 64 (0, 0)) (by (with_reducible repeat (first | refine blk_drewN ?_ _ | refine blk_drew ?_ | refine blk_alloc ?_ _)); exact BK225.out)) : gb233 ≠ gb225)); clear HO223; clear HO231; clear BK225; clear HB; have HO223 := n0_; have HO231 := n1_; have BK225 := n2_; have HB := n3_; have BK233 := n4_; have GW233 := n5_; have GE233 := n6_; have NB225_233 := n7_; have NB233_225 := n8_; clear n0_ n1_ n2_ n3_ n4_ n5_ n6_ n7_ n8_; clear hb hbox hg; have hnb12 := NB233_225.out; have hnc12 := NB225_233.out; have hcz13_0 : w11.cell? ⟨gb233, 0, none⟩ = some (.int .i64 0) := (blk_cell BK233.out 0).trans rfl; have hcz13_1 : w11.cell? ⟨gb233, 1, none⟩ = some (.int .i64 0) := (blk_cell BK233.out 1).trans rfl; have hcz13_2 : w11.cell? ⟨gb233, 2, none⟩ = some (.int .i64 0) := (blk_cell BK233.out 2).trans rfl; have hcz13_3 : w11.cell? ⟨gb233, 3, none⟩ = some (.slice none 0 0) := (blk_cell BK233.out 3).trans rfl; have hfz13_0 := blk_frozen BK233.out 0; have hfz13_1 := blk_frozen BK233.out 1; have hfz13_2 := blk_frozen BK233.out 2; have hfz13_3 := blk_frozen BK233.out 3; obtain ⟨Ao14, co14, eo14⟩ := Kd.R_slice HO231.out; subst eo14))
  (try simp only [Act.put, List.setIfInBounds_toArray, List.set_cons_zero, List.set_cons_succ])
  go_cut [33] (fun v33 wc => ∃ (kq : Nat) (x33_4 : Bool), v33 = .bool x33_4 ∧ Aside0 (laws_FnExactNewSpan.j0 kq a0 a1 t224 x33_4 t218 t219 t220 t221 t226 t227 t228 t229 = some r) ∧ Aside0 (kq ≤ k) ∧ Aside0 (Kd.R (Kd.int .i64) 3 wc w.heap.size (fun k_ => some k_ ≠ ((.slice Ao14 t229.length co14) : Value).ownBlock) (.slice Ao9 t221.length co9) t221) ∧ Aside0 (Kd.R (Kd.int .i64) 3 wc w.heap.size (fun k_ => some k_ ≠ ((.slice Ao9 t221.length co9) : Value).ownBlock) (.slice Ao14 t229.length co14) t229) ∧ Aside0 (wc.heap[gb225]? = some (.cells #[.int .i64 t218, .int .i64 t219, .int .i64 t220, (.slice Ao9 t221.length co9)] 64 (0, 0))) ∧ Aside0 (wc.heap[gb233]? = some (.cells #[.int .i64 t226, .int .i64 t227, .int .i64 t228, (.slice Ao14 t229.length co14)] 64 (0, 0))) ∧ Aside0 (Below w.heap.size w wc))
  case first =>
    have H := HC5.out
    clear HC5
    replace H := Option.bind_eq_some_iff.mp H
    obtain ⟨t234, A150, H⟩ := H
    replace H : (if t234 = true then (laws_FnExactNewSpan.j0 k a0 a1 t224 (t232 != t224) t218 t219 t220 t221 t226 t227 t228 t229) else (laws_FnExactNewSpan.j0 k a0 a1 t224 true t218 t219 t220 t221 t226 t227 t228 t229)) = some r := H
    have A15 := Aside0.mk A150
    clear A150
    by_cases c16 : t234 = true
    · subst c16
      have H1 : (laws_FnExactNewSpan.j0 k a0 a1 t224 (t232 != t224) t218 t219 t220 t221 t226 t227 t228 t229) = some r := by rw [if_pos rfl] at H; exact H
      clear H
      have H := H1
      clear H1
      have H' := Aside0.mk H
      clear H
      have hnb17 := NB233_225.out
      have hnc17 := NB225_233.out
      have hcz18_0 : w11.cell? ⟨gb233, 0, none⟩ = some (.int .i64 0) := (blk_cell BK233.out 0).trans rfl
      have hcz18_1 : w11.cell? ⟨gb233, 1, none⟩ = some (.int .i64 0) := (blk_cell BK233.out 1).trans rfl
      have hcz18_2 : w11.cell? ⟨gb233, 2, none⟩ = some (.int .i64 0) := (blk_cell BK233.out 2).trans rfl
      have hcz18_3 : w11.cell? ⟨gb233, 3, none⟩ = some (.slice none 0 0) := (blk_cell BK233.out 3).trans rfl
      have hfz18_0 := blk_frozen BK233.out 0
      have hfz18_1 := blk_frozen BK233.out 1
      have hfz18_2 := blk_frozen BK233.out 2
      have hfz18_3 := blk_frozen BK233.out 3
      have hcz19_0 : w11.cell? ⟨gb225, 0, none⟩ = some (.int .i64 t218) := (blk_cell BK225.out 0).trans rfl
      have hcz19_1 : w11.cell? ⟨gb225, 1, none⟩ = some (.int .i64 t219) := (blk_cell BK225.out 1).trans rfl
      have hcz19_2 : w11.cell? ⟨gb225, 2, none⟩ = some (.int .i64 t220) := (blk_cell BK225.out 2).trans rfl
      have hcz19_3 : w11.cell? ⟨gb225, 3, none⟩ = some (.slice Ao9 t221.length co9) := (blk_cell BK225.out 3).trans rfl
      have hfz19_0 := blk_frozen BK225.out 0
      have hfz19_1 := blk_frozen BK225.out 1
      have hfz19_2 := blk_frozen BK225.out 2
      have hfz19_3 := blk_frozen BK225.out 3
      go_wp2_with (first | ((with_reducible refine gate_callee (f := 48) rfl ?_); refine goesL_ (some 27) rfl rfl Try.func48 (by kernel_rfl) rfl #[.agg #[.int .i64 t226, .int .i64 t227, .int .i64 t228, .slice Ao14 t229.length co14], .agg #[.int .i64 t218, .int .i64 t219, .int .i64 t220, .slice Ao9 t221.length co9]] rfl (by (try simp only [List.map_toArray, List.map_cons, List.map_nil]); first | done | rfl | (simp only [List.length_drop, List.length_take]; rfl)) ?_; (with_reducible refine (laws_eqSpan.calls k t226 t227 t228 _ _ t229 t218 t219 t220 _ _ t221 true _ ?side1 ?side2 ?side3 ?side4 A15.out).mono ?_); (case side1 => refine (Kd.R_reads' (e := 3) (base := w.heap.size) (ok := fun k_ => (True ∧ some k_ ≠ (.slice Ao9 t221.length co9 : Value).ownBlock)) (n := t229.length) (c := co14) ?_).2.2; exact (by (with_reducible repeat (first | apply Kd.R_alloc | apply Kd.R_drewN | apply Kd.R_drew)); exact (Kd.R_mono (Kd.R_far (p := ⟨gb233, 3, none⟩) (Kd.R_far (p := ⟨gb233, 2, none⟩) (Kd.R_far (p := ⟨gb233, 1, none⟩) (Kd.R_far (p := ⟨gb233, 0, none⟩) (Kd.R_types HO231.out BK233.out (by decide)) (fun _ hk => hk.2) (.int .i64 t226)) (fun _ hk => hk.2) (.int .i64 t227)) (fun _ hk => hk.2) (.int .i64 t228)) (fun _ hk => hk.2) (.slice Ao14 t229.length co14)) (fun _ h_ => h_.1)))); (case side2 => exact (Kd.R_reads' HO231.out).2.1); (case side3 => refine (Kd.R_reads' (e := 3) (base := w.heap.size) (ok := fun k_ => (True ∧ some k_ ≠ (.slice Ao14 t229.length co14 : Value).ownBlock)) (n := t221.length) (c := co9) ?_).2.2; exact (by (with_reducible repeat (first | apply Kd.R_alloc | apply Kd.R_drewN | apply Kd.R_drew)); exact (Kd.R_mono (Kd.R_far (p := ⟨gb233, 3, none⟩) (Kd.R_far (p := ⟨gb233, 2, none⟩) (Kd.R_far (p := ⟨gb233, 1, none⟩) (Kd.R_far (p := ⟨gb233, 0, none⟩) (Kd.R_types HO223.out BK233.out (by decide)) (fun _ hk => hk.2) (.int .i64 t226)) (fun _ hk => hk.2) (.int .i64 t227)) (fun _ hk => hk.2) (.int .i64 t228)) (fun _ hk => hk.2) (.slice Ao14 t229.length co14)) (fun _ h_ => h_.1)))); (case side4 => exact (Kd.R_reads' HO223.out).2.1); rintro e w20 ⟨rfl, hb⟩; refine ⟨_, rfl, ?_⟩; have n0_ := Aside0.mk (Kd.R_below (by (with_reducible repeat (first | apply Kd.R_alloc | apply Kd.R_drewN | apply Kd.R_drew)); exact (Kd.R_mono (Kd.R_far (p := ⟨gb233, 3, none⟩) (Kd.R_far (p := ⟨gb233, 2, none⟩) (Kd.R_far (p := ⟨gb233, 1, none⟩) (Kd.R_far (p := ⟨gb233, 0, none⟩) (Kd.R_types HO223.out BK233.out (by decide)) (fun _ hk => hk.2) (.int .i64 t226)) (fun _ hk => hk.2) (.int .i64 t227)) (fun _ hk => hk.2) (.int .i64 t228)) (fun _ hk => hk.2) (.slice Ao14 t229.length co14)) (fun _ h_ => h_.1))) hb); have n1_ := Aside0.mk (Kd.R_below (by (with_reducible repeat (first | apply Kd.R_alloc | apply Kd.R_drewN | apply Kd.R_drew)); exact (Kd.R_mono (Kd.R_far (p := ⟨gb233, 3, none⟩) (Kd.R_far (p := ⟨gb233, 2, none⟩) (Kd.R_far (p := ⟨gb233, 1, none⟩) (Kd.R_far (p := ⟨gb233, 0, none⟩) (Kd.R_types HO231.out BK233.out (by decide)) (fun _ hk => hk.2) (.int .i64 t226)) (fun _ hk => hk.2) (.int .i64 t227)) (fun _ hk => hk.2) (.int .i64 t228)) (fun _ hk => hk.2) (.slice Ao14 t229.length co14)) (fun _ h_ => h_.1))) hb); have n2_ := Aside0.mk (blk_below (g := gb225) (o := .cells #[.int .i64 t218, .int .i64 t219, .int .i64 t220, .slice Ao9 t221.length co9] 64 (0, 0)) (by (with_reducible repeat (first | refine blk_drewN ?_ _ | refine blk_drew ?_ | refine blk_alloc ?_ _)); refine blk_far ?_ NB225_233.out _; (with_reducible repeat (first | refine blk_drewN ?_ _ | refine blk_drew ?_ | refine blk_alloc ?_ _)); refine blk_far ?_ NB225_233.out _; (with_reducible repeat (first | refine blk_drewN ?_ _ | refine blk_drew ?_ | refine blk_alloc ?_ _)); refine blk_far ?_ NB225_233.out _; (with_reducible repeat (first | refine blk_drewN ?_ _ | refine blk_drew ?_ | refine blk_alloc ?_ _)); refine blk_far ?_ NB225_233.out _; (with_reducible repeat (first | refine blk_drewN ?_ _ | refine blk_drew ?_ | refine blk_alloc ?_ _)); exact BK225.out) hb); have n3_ := Aside0.mk (blk_below (g := gb233) (o := .cells #[.int .i64 t226, .int .i64 t227, .int .i64 t228, .slice Ao14 t229.length co14] 64 (0, 0)) (by (with_reducible repeat (first | refine blk_drewN ?_ _ | refine blk_drew ?_ | refine blk_alloc ?_ _)); refine blk_put (cs := #[.int .i64 t226, .int .i64 t227, .int .i64 t228, .slice none 0 0]) ?_ 3 _ rfl; (with_reducible repeat (first | refine blk_drewN ?_ _ | refine blk_drew ?_ | refine blk_alloc ?_ _)); refine blk_put (cs := #[.int .i64 t226, .int .i64 t227, .int .i64 0, .slice none 0 0]) ?_ 2 _ rfl; (with_reducible repeat (first | refine blk_drewN ?_ _ | refine blk_drew ?_ | refine blk_alloc ?_ _)); refine blk_put (cs := #[.int .i64 t226, .int .i64 0, .int .i64 0, .slice none 0 0]) ?_ 1 _ rfl; (with_reducible repeat (first | refine blk_drewN ?_ _ | refine blk_drew ?_ | refine blk_alloc ?_ _)); refine blk_put (cs := #[.int .i64 0, .int .i64 0, .int .i64 0, .slice none 0 0]) ?_ 0 _ rfl; (with_reducible repeat (first | refine blk_drewN ?_ _ | refine blk_drew ?_ | refine blk_alloc ?_ _)); exact BK233.out) hb); have n4_ := Aside0.mk (below_step (by repeat (first | (with_reducible first | exact HB.out | apply below_alloc | apply pw_below_drewN | apply below_drew1 | refine below_set ?_ GE225.out | refine below_set ?_ GE233.out) | exact HB.out)) hb); clear HO223; clear HO231; clear BK225; clear BK233; clear HB; have HO223 := n0_; have HO231 := n1_; have BK225 := n2_; have BK233 := n3_; have HB := n4_; clear n0_ n1_ n2_ n3_ n4_; (try clear hb); (try clear hb2); (try clear hk); (try clear hi)))
      go_meet
      case rel => exact ⟨_, ((t232 != t224)), (by first | rfl | (simp; done) | (simp [*]; done)), H', ⟨by first | omega | exact Nat.le_refl _⟩, ⟨by (with_reducible repeat (first | apply Kd.R_alloc | apply Kd.R_drewN | apply Kd.R_drew)); exact Kd.R_mono HO223.out (fun _ hk => hk.2)⟩, ⟨by (with_reducible repeat (first | apply Kd.R_alloc | apply Kd.R_drewN | apply Kd.R_drew)); exact Kd.R_mono HO231.out (fun _ hk => hk.2)⟩, ⟨by (with_reducible repeat (first | refine blk_drewN ?_ _ | refine blk_drew ?_ | refine blk_alloc ?_ _)); exact BK225.out⟩, ⟨by (with_reducible repeat (first | refine blk_drewN ?_ _ | refine blk_drew ?_ | refine blk_alloc ?_ _)); exact BK233.out⟩, ⟨by repeat (first | (with_reducible first | exact HB.out | apply below_alloc | apply pw_below_drewN | apply below_drew1 | refine below_set ?_ GE225.out | refine below_set ?_ GE233.out) | exact HB.out)⟩⟩
    · replace c16 := Bool.eq_false_iff.mpr c16
      subst c16
      have H1 : (laws_FnExactNewSpan.j0 k a0 a1 t224 true t218 t219 t220 t221 t226 t227 t228 t229) = some r := by rw [if_neg (show ¬ (false = true) by decide)] at H; exact H
      clear H
      have H := H1
      clear H1
      have H' := Aside0.mk H
      clear H
      have hnb21 := NB233_225.out
      have hnc21 := NB225_233.out
      have hcz22_0 : w11.cell? ⟨gb233, 0, none⟩ = some (.int .i64 0) := (blk_cell BK233.out 0).trans rfl
      have hcz22_1 : w11.cell? ⟨gb233, 1, none⟩ = some (.int .i64 0) := (blk_cell BK233.out 1).trans rfl
      have hcz22_2 : w11.cell? ⟨gb233, 2, none⟩ = some (.int .i64 0) := (blk_cell BK233.out 2).trans rfl
      have hcz22_3 : w11.cell? ⟨gb233, 3, none⟩ = some (.slice none 0 0) := (blk_cell BK233.out 3).trans rfl
      have hfz22_0 := blk_frozen BK233.out 0
      have hfz22_1 := blk_frozen BK233.out 1
      have hfz22_2 := blk_frozen BK233.out 2
      have hfz22_3 := blk_frozen BK233.out 3
      have hcz23_0 : w11.cell? ⟨gb225, 0, none⟩ = some (.int .i64 t218) := (blk_cell BK225.out 0).trans rfl
      have hcz23_1 : w11.cell? ⟨gb225, 1, none⟩ = some (.int .i64 t219) := (blk_cell BK225.out 1).trans rfl
      have hcz23_2 : w11.cell? ⟨gb225, 2, none⟩ = some (.int .i64 t220) := (blk_cell BK225.out 2).trans rfl
      have hcz23_3 : w11.cell? ⟨gb225, 3, none⟩ = some (.slice Ao9 t221.length co9) := (blk_cell BK225.out 3).trans rfl
      have hfz23_0 := blk_frozen BK225.out 0
      have hfz23_1 := blk_frozen BK225.out 1
      have hfz23_2 := blk_frozen BK225.out 2
      have hfz23_3 := blk_frozen BK225.out 3
      go_wp2_with (first | ((with_reducible refine gate_callee (f := 48) rfl ?_); refine goesL_ (some 27) rfl rfl Try.func48 (by kernel_rfl) rfl #[.agg #[.int .i64 t226, .int .i64 t227, .int .i64 t228, .slice Ao14 t229.length co14], .agg #[.int .i64 t218, .int .i64 t219, .int .i64 t220, .slice Ao9 t221.length co9]] rfl (by (try simp only [List.map_toArray, List.map_cons, List.map_nil]); first | done | rfl | (simp only [List.length_drop, List.length_take]; rfl)) ?_; (with_reducible refine (laws_eqSpan.calls k t226 t227 t228 _ _ t229 t218 t219 t220 _ _ t221 false _ ?side1 ?side2 ?side3 ?side4 A15.out).mono ?_); (case side1 => refine (Kd.R_reads' (e := 3) (base := w.heap.size) (ok := fun k_ => (True ∧ some k_ ≠ (.slice Ao9 t221.length co9 : Value).ownBlock)) (n := t229.length) (c := co14) ?_).2.2; exact (by (with_reducible repeat (first | apply Kd.R_alloc | apply Kd.R_drewN | apply Kd.R_drew)); exact (Kd.R_mono (Kd.R_far (p := ⟨gb233, 3, none⟩) (Kd.R_far (p := ⟨gb233, 2, none⟩) (Kd.R_far (p := ⟨gb233, 1, none⟩) (Kd.R_far (p := ⟨gb233, 0, none⟩) (Kd.R_types HO231.out BK233.out (by decide)) (fun _ hk => hk.2) (.int .i64 t226)) (fun _ hk => hk.2) (.int .i64 t227)) (fun _ hk => hk.2) (.int .i64 t228)) (fun _ hk => hk.2) (.slice Ao14 t229.length co14)) (fun _ h_ => h_.1)))); (case side2 => exact (Kd.R_reads' HO231.out).2.1); (case side3 => refine (Kd.R_reads' (e := 3) (base := w.heap.size) (ok := fun k_ => (True ∧ some k_ ≠ (.slice Ao14 t229.length co14 : Value).ownBlock)) (n := t221.length) (c := co9) ?_).2.2; exact (by (with_reducible repeat (first | apply Kd.R_alloc | apply Kd.R_drewN | apply Kd.R_drew)); exact (Kd.R_mono (Kd.R_far (p := ⟨gb233, 3, none⟩) (Kd.R_far (p := ⟨gb233, 2, none⟩) (Kd.R_far (p := ⟨gb233, 1, none⟩) (Kd.R_far (p := ⟨gb233, 0, none⟩) (Kd.R_types HO223.out BK233.out (by decide)) (fun _ hk => hk.2) (.int .i64 t226)) (fun _ hk => hk.2) (.int .i64 t227)) (fun _ hk => hk.2) (.int .i64 t228)) (fun _ hk => hk.2) (.slice Ao14 t229.length co14)) (fun _ h_ => h_.1)))); (case side4 => exact (Kd.R_reads' HO223.out).2.1); rintro e w24 ⟨rfl, hb⟩; refine ⟨_, rfl, ?_⟩; have n0_ := Aside0.mk (Kd.R_below (by (with_reducible repeat (first | apply Kd.R_alloc | apply Kd.R_drewN | apply Kd.R_drew)); exact (Kd.R_mono (Kd.R_far (p := ⟨gb233, 3, none⟩) (Kd.R_far (p := ⟨gb233, 2, none⟩) (Kd.R_far (p := ⟨gb233, 1, none⟩) (Kd.R_far (p := ⟨gb233, 0, none⟩) (Kd.R_types HO223.out BK233.out (by decide)) (fun _ hk => hk.2) (.int .i64 t226)) (fun _ hk => hk.2) (.int .i64 t227)) (fun _ hk => hk.2) (.int .i64 t228)) (fun _ hk => hk.2) (.slice Ao14 t229.length co14)) (fun _ h_ => h_.1))) hb); have n1_ := Aside0.mk (Kd.R_below (by (with_reducible repeat (first | apply Kd.R_alloc | apply Kd.R_drewN | apply Kd.R_drew)); exact (Kd.R_mono (Kd.R_far (p := ⟨gb233, 3, none⟩) (Kd.R_far (p := ⟨gb233, 2, none⟩) (Kd.R_far (p := ⟨gb233, 1, none⟩) (Kd.R_far (p := ⟨gb233, 0, none⟩) (Kd.R_types HO231.out BK233.out (by decide)) (fun _ hk => hk.2) (.int .i64 t226)) (fun _ hk => hk.2) (.int .i64 t227)) (fun _ hk => hk.2) (.int .i64 t228)) (fun _ hk => hk.2) (.slice Ao14 t229.length co14)) (fun _ h_ => h_.1))) hb); have n2_ := Aside0.mk (blk_below (g := gb225) (o := .cells #[.int .i64 t218, .int .i64 t219, .int .i64 t220, .slice Ao9 t221.length co9] 64 (0, 0)) (by (with_reducible repeat (first | refine blk_drewN ?_ _ | refine blk_drew ?_ | refine blk_alloc ?_ _)); refine blk_far ?_ NB225_233.out _; (with_reducible repeat (first | refine blk_drewN ?_ _ | refine blk_drew ?_ | refine blk_alloc ?_ _)); refine blk_far ?_ NB225_233.out _; (with_reducible repeat (first | refine blk_drewN ?_ _ | refine blk_drew ?_ | refine blk_alloc ?_ _)); refine blk_far ?_ NB225_233.out _; (with_reducible repeat (first | refine blk_drewN ?_ _ | refine blk_drew ?_ | refine blk_alloc ?_ _)); refine blk_far ?_ NB225_233.out _; (with_reducible repeat (first | refine blk_drewN ?_ _ | refine blk_drew ?_ | refine blk_alloc ?_ _)); exact BK225.out) hb); have n3_ := Aside0.mk (blk_below (g := gb233) (o := .cells #[.int .i64 t226, .int .i64 t227, .int .i64 t228, .slice Ao14 t229.length co14] 64 (0, 0)) (by (with_reducible repeat (first | refine blk_drewN ?_ _ | refine blk_drew ?_ | refine blk_alloc ?_ _)); refine blk_put (cs := #[.int .i64 t226, .int .i64 t227, .int .i64 t228, .slice none 0 0]) ?_ 3 _ rfl; (with_reducible repeat (first | refine blk_drewN ?_ _ | refine blk_drew ?_ | refine blk_alloc ?_ _)); refine blk_put (cs := #[.int .i64 t226, .int .i64 t227, .int .i64 0, .slice none 0 0]) ?_ 2 _ rfl; (with_reducible repeat (first | refine blk_drewN ?_ _ | refine blk_drew ?_ | refine blk_alloc ?_ _)); refine blk_put (cs := #[.int .i64 t226, .int .i64 0, .int .i64 0, .slice none 0 0]) ?_ 1 _ rfl; (with_reducible repeat (first | refine blk_drewN ?_ _ | refine blk_drew ?_ | refine blk_alloc ?_ _)); refine blk_put (cs := #[.int .i64 0, .int .i64 0, .int .i64 0, .slice none 0 0]) ?_ 0 _ rfl; (with_reducible repeat (first | refine blk_drewN ?_ _ | refine blk_drew ?_ | refine blk_alloc ?_ _)); exact BK233.out) hb); have n4_ := Aside0.mk (below_step (by repeat (first | (with_reducible first | exact HB.out | apply below_alloc | apply pw_below_drewN | apply below_drew1 | refine below_set ?_ GE225.out | refine below_set ?_ GE233.out) | exact HB.out)) hb); clear HO223; clear HO231; clear BK225; clear BK233; clear HB; have HO223 := n0_; have HO231 := n1_; have BK225 := n2_; have BK233 := n3_; have HB := n4_; clear n0_ n1_ n2_ n3_ n4_; (try clear hb); (try clear hb2); (try clear hk); (try clear hi)))
      go_meet
      case rel => exact ⟨_, (true), (by first | rfl | (simp; done) | (simp [*]; done)), H', ⟨by first | omega | exact Nat.le_refl _⟩, ⟨by (with_reducible repeat (first | apply Kd.R_alloc | apply Kd.R_drewN | apply Kd.R_drew)); exact Kd.R_mono HO223.out (fun _ hk => hk.2)⟩, ⟨by (with_reducible repeat (first | apply Kd.R_alloc | apply Kd.R_drewN | apply Kd.R_drew)); exact Kd.R_mono HO231.out (fun _ hk => hk.2)⟩, ⟨by (with_reducible repeat (first | refine blk_drewN ?_ _ | refine blk_drew ?_ | refine blk_alloc ?_ _)); exact BK225.out⟩, ⟨by (with_reducible repeat (first | refine blk_drewN ?_ _ | refine blk_drew ?_ | refine blk_alloc ?_ _)); exact BK233.out⟩, ⟨by repeat (first | (with_reducible first | exact HB.out | apply below_alloc | apply pw_below_drewN | apply below_drew1 | refine below_set ?_ GE225.out | refine below_set ?_ GE233.out) | exact HB.out)⟩⟩
  case rest =>
    clear HC5
    try clear c1
    try clear c2
    try clear p2
    try clear c4
    try clear c5
    try clear c12
    try clear c16
    try clear c17
    try clear c21
    try clear hcz13_0
    try clear hcz13_1
    try clear hcz13_2
    try clear hcz13_3
    try clear hcz18_0
    try clear hcz18_1
    try clear hcz18_2
    try clear hcz18_3
    try clear hcz19_0
    try clear hcz19_1
    try clear hcz19_2
    try clear hcz19_3
    try clear hcz22_0
    try clear hcz22_1
    try clear hcz22_2
    try clear hcz22_3
    try clear hcz23_0
    try clear hcz23_1
    try clear hcz23_2
    try clear hcz23_3
    try clear hcz8_0
    try clear hcz8_1
    try clear hcz8_2
    try clear hcz8_3
    try clear hfz13_0
    try clear hfz13_1
    try clear hfz13_2
    try clear hfz13_3
    try clear hfz18_0
    try clear hfz18_1
    try clear hfz18_2
    try clear hfz18_3
    try clear hfz19_0
    try clear hfz19_1
    try clear hfz19_2
    try clear hfz19_3
    try clear hfz22_0
    try clear hfz22_1
    try clear hfz22_2
    try clear hfz22_3
    try clear hfz23_0
    try clear hfz23_1
    try clear hfz23_2
    try clear hfz23_3
    try clear hfz8_0
    try clear hfz8_1
    try clear hfz8_2
    try clear hfz8_3
    obtain ⟨kq, x33_4, rfl, HA, HJ4, HO_226003, HO_234003, BK225, BK233, HB⟩ := hcut
    cases kq with
    | zero => exact absurd HA.out (by simp [laws_FnExactNewSpan.j0])
    | succ kj4 =>
      have H := HA.out
      clear HA
      simp only [laws_FnExactNewSpan.j0] at H
      by_cases c25 : x33_4 = true
      · subst c25
        have H1 : (some false) = some r := by rw [if_pos rfl] at H; exact H
        clear H
        have H := H1
        clear H1
        obtain rfl := Option.some.inj H
        go_wp2
        go_ret
        exact ⟨by first | rfl | (simp [errW_none, errW_some] <;> rfl) | (simp [*, errW_none, errW_some] <;> rfl), by repeat (first | (with_reducible first | exact HB.out | apply below_alloc | apply pw_below_drewN | apply below_drew1 | refine below_set ?_ GE225.out | refine below_set ?_ GE233.out) | exact HB.out)⟩
      · replace c25 := Bool.eq_false_iff.mpr c25
        subst c25
        have H1 : ((laws_markSpan.f kj4 t226 t227 t228 t229 1).bind fun bt235 => ((laws_heldSpan.f kj4 t226 t227 t228 bt235.2 1).bind fun t237 => (if t237 < 0 then (some false) else (if t237 = bt235.1 then ((impl_NewSpan.f kj4 a0 a1).bind fun bt238 => ((laws_eqSpan.f kj4 bt238.1 bt238.2.1 bt238.2.2.1 bt238.2.2.2.1 t218 t219 t220 t221).bind fun t246 => (if t246 = true then (laws_FnExactNewSpan.j1 kj4 bt235.1 (bt238.2.2.2.2 != t224) t226 t227 t228 bt235.2) else (laws_FnExactNewSpan.j1 kj4 bt235.1 true t226 t227 t228 bt235.2)))) else (some false))))) = some r := by rw [if_neg (show ¬ (false = true) by decide)] at H; exact H
        clear H
        have H := H1
        clear H1
        replace H := Option.bind_eq_some_iff.mp H
        obtain ⟨⟨t235, t236⟩, A260, H⟩ := H
        replace H : ((laws_heldSpan.f kj4 t226 t227 t228 t236 1).bind fun t237 => (if t237 < 0 then (some false) else (if t237 = t235 then ((impl_NewSpan.f kj4 a0 a1).bind fun bt238 => ((laws_eqSpan.f kj4 bt238.1 bt238.2.1 bt238.2.2.1 bt238.2.2.2.1 t218 t219 t220 t221).bind fun t246 => (if t246 = true then (laws_FnExactNewSpan.j1 kj4 t235 (bt238.2.2.2.2 != t224) t226 t227 t228 t236) else (laws_FnExactNewSpan.j1 kj4 t235 true t226 t227 t228 t236)))) else (some false)))) = some r := H
        have A26 := Aside0.mk A260
        clear A260
        replace H := Option.bind_eq_some_iff.mp H
        obtain ⟨t237, A270, H⟩ := H
        replace H : (if t237 < 0 then (some false) else (if t237 = t235 then ((impl_NewSpan.f kj4 a0 a1).bind fun bt238 => ((laws_eqSpan.f kj4 bt238.1 bt238.2.1 bt238.2.2.1 bt238.2.2.2.1 t218 t219 t220 t221).bind fun t246 => (if t246 = true then (laws_FnExactNewSpan.j1 kj4 t235 (bt238.2.2.2.2 != t224) t226 t227 t228 t236) else (laws_FnExactNewSpan.j1 kj4 t235 true t226 t227 t228 t236)))) else (some false))) = some r := H
        have A27 := Aside0.mk A270
        clear A270
        by_cases c28 : t237 < 0
        · rw [if_pos c28] at H
          have c28b0 : decide (t237 < 0) = true := decide_eq_true c28
          clear c28
          obtain rfl := Option.some.inj H
          have hnb29 := NB233_225.out
          have hnc29 := NB225_233.out
          have hcz30_0 : wc.cell? ⟨gb233, 0, none⟩ = some (.int .i64 t226) := (blk_cell BK233.out 0).trans rfl
          have hcz30_1 : wc.cell? ⟨gb233, 1, none⟩ = some (.int .i64 t227) := (blk_cell BK233.out 1).trans rfl
          have hcz30_2 : wc.cell? ⟨gb233, 2, none⟩ = some (.int .i64 t228) := (blk_cell BK233.out 2).trans rfl
          have hcz30_3 : wc.cell? ⟨gb233, 3, none⟩ = some (.slice Ao14 t229.length co14) := (blk_cell BK233.out 3).trans rfl
          have hfz30_0 := blk_frozen BK233.out 0
          have hfz30_1 := blk_frozen BK233.out 1
          have hfz30_2 := blk_frozen BK233.out 2
          have hfz30_3 := blk_frozen BK233.out 3
          go_wp2_with (first | ((with_reducible refine gate_callee (f := 51) rfl ?_); refine goesL_ (some 36) rfl rfl Try.func51 (by kernel_rfl) rfl #[.agg #[.int .i64 t226, .int .i64 t227, .int .i64 t228, .slice Ao14 t229.length co14], .int .i64 1] rfl (by (try simp only [List.map_toArray, List.map_cons, List.map_nil]); first | done | rfl | (simp only [List.length_drop, List.length_take]; rfl)) ?_; (with_reducible refine (laws_markSpan.calls kj4 t226 t227 t228 (fun k_ => some k_ = (.slice Ao14 t229.length co14 : Value).ownBlock) (.slice Ao14 t229.length co14) t229 1 t235 t236 w _ ?side1 ?side2 A26.out).mono ?_); (case side1 => repeat (first | (with_reducible first | exact HB.out | apply below_alloc | apply pw_below_drewN | apply below_drew1 | refine below_set ?_ GE225.out | refine below_set ?_ GE233.out) | exact HB.out)); (case side2 => exact Kd.R_tight rfl HO_234003.out); rintro e w31 ⟨rfl, hy0, hb, hkp⟩; refine ⟨_, rfl, ?_⟩; have n0_ := Aside0.mk (Kd.R_mono (ok' := fun k_ => some k_ ≠ (.slice Ao14 t229.length co14 : Value).ownBlock) (Kd.R_keptB (HO_226003.out) hkp (fun k_ hk_ hs_ => (hk_) hs_)) (fun k_ hk_ => hk_.1)); have n1_ := Aside0.mk (Kd.R_reok rfl hy0 (fun k_ e_ => HO_234003.out.1 k_ e_)); have n2_ := Aside0.mk (blk_kept (by (with_reducible repeat (first | refine blk_drewN ?_ _ | refine blk_drew ?_ | refine blk_alloc ?_ _)); exact BK225.out) hkp (fun hs_ => (fun e_ => (Kd.R_ne HO_234003.out BK225.out (by decide)) e_) hs_)); have n3_ := Aside0.mk (blk_kept (by (with_reducible repeat (first | refine blk_drewN ?_ _ | refine blk_drew ?_ | refine blk_alloc ?_ _)); exact BK233.out) hkp (fun hs_ => (fun e_ => (Kd.R_ne HO_234003.out BK233.out (by decide)) e_) hs_)); have n4_ := Aside0.mk (hb); clear HO_226003; clear HO_234003; clear BK225; clear BK233; clear HB; have HO_226003 := n0_; have HO_234003 := n1_; have BK225 := n2_; have BK233 := n3_; have HB := n4_; clear n0_ n1_ n2_ n3_ n4_; (try clear hb); (try clear hkp); (try clear hy0); have hcz32_0 : w31.cell? ⟨gb233, 0, none⟩ = some (.int .i64 t226) := (blk_cell BK233.out 0).trans rfl; have hcz32_1 : w31.cell? ⟨gb233, 1, none⟩ = some (.int .i64 t227) := (blk_cell BK233.out 1).trans rfl; have hcz32_2 : w31.cell? ⟨gb233, 2, none⟩ = some (.int .i64 t228) := (blk_cell BK233.out 2).trans rfl; have hcz32_3 : w31.cell? ⟨gb233, 3, none⟩ = some (.slice Ao14 t229.length co14) := (blk_cell BK233.out 3).trans rfl; have hfz32_0 := blk_frozen BK233.out 0; have hfz32_1 := blk_frozen BK233.out 1; have hfz32_2 := blk_frozen BK233.out 2; have hfz32_3 := blk_frozen BK233.out 3) | ((with_reducible refine gate_callee (f := 52) rfl ?_); refine goesL_ (some 39) rfl rfl Try.func52 (by kernel_rfl) rfl #[.agg #[.int .i64 t226, .int .i64 t227, .int .i64 t228, .slice Ao14 t236.length co14], .int .i64 1] rfl (by (try simp only [List.map_toArray, List.map_cons, List.map_nil]); first | done | (rw [show t236.length = t229.length from (Kd.R_reads' HO_234003.out).1.symm] <;> rfl) | rfl | (simp only [List.length_drop, List.length_take]; rfl)) ?_; (with_reducible refine (laws_heldSpan.calls kj4 t226 t227 t228 _ _ t236 1 t237 _ ?side1 ?side2 A27.out).mono ?_); (case side1 => repeat (first | exact (Kd.R_reads' HO_234003.out).2.2 | (with_reducible refine Kd.C_alloc ?_ _) | (with_reducible refine Kd.C_drewN ?_ _) | (with_reducible refine Kd.C_drew ?_))); (case side2 => rw [show t236.length = t229.length from (Kd.R_reads' HO_234003.out).1.symm]; exact (Kd.R_reads' HO_234003.out).2.1); rintro e w33 ⟨rfl, hb⟩; refine ⟨_, rfl, ?_⟩; have n0_ := Aside0.mk (Kd.R_below (by (with_reducible repeat (first | apply Kd.R_alloc | apply Kd.R_drewN | apply Kd.R_drew)); exact HO_226003.out) hb); have n1_ := Aside0.mk (Kd.R_below (by (with_reducible repeat (first | apply Kd.R_alloc | apply Kd.R_drewN | apply Kd.R_drew)); exact HO_234003.out) hb); have n2_ := Aside0.mk (blk_below (g := gb225) (o := .cells #[.int .i64 t218, .int .i64 t219, .int .i64 t220, .slice Ao9 t221.length co9] 64 (0, 0)) (by (with_reducible repeat (first | refine blk_drewN ?_ _ | refine blk_drew ?_ | refine blk_alloc ?_ _)); exact BK225.out) hb); have n3_ := Aside0.mk (blk_below (g := gb233) (o := .cells #[.int .i64 t226, .int .i64 t227, .int .i64 t228, .slice Ao14 t229.length co14] 64 (0, 0)) (by (with_reducible repeat (first | refine blk_drewN ?_ _ | refine blk_drew ?_ | refine blk_alloc ?_ _)); exact BK233.out) hb); have n4_ := Aside0.mk (below_step (by repeat (first | (with_reducible first | exact HB.out | apply below_alloc | apply pw_below_drewN | apply below_drew1 | refine below_set ?_ GE225.out | refine below_set ?_ GE233.out) | exact HB.out)) hb); clear HO_226003; clear HO_234003; clear BK225; clear BK233; clear HB; have HO_226003 := n0_; have HO_234003 := n1_; have BK225 := n2_; have BK233 := n3_; have HB := n4_; clear n0_ n1_ n2_ n3_ n4_; (try clear hb); (try clear hb2); (try clear hk); (try clear hi)))
          go_ret
          exact ⟨by first | rfl | (simp [errW_none, errW_some] <;> rfl) | (simp [*, errW_none, errW_some] <;> rfl), by repeat (first | (with_reducible first | exact HB.out | apply below_alloc | apply pw_below_drewN | apply below_drew1 | refine below_set ?_ GE225.out | refine below_set ?_ GE233.out) | exact HB.out)⟩
        · rw [if_neg c28] at H
          have c28b0 : decide (t237 < 0) = false := decide_eq_false c28
          clear c28
          by_cases c34 : t237 = t235
          · rw [if_pos c34] at H
            have c34b0 : (t237 == t235) = true := beq_iff_eq.mpr c34
            have c34b1 : (t237 != t235) = false := bne_eq_false_iff_eq.mpr c34
            clear c34
            replace H := Option.bind_eq_some_iff.mp H
            obtain ⟨⟨t238, t239, t240, t241, t244⟩, A350, H⟩ := H
            replace H : ((laws_eqSpan.f kj4 t238 t239 t240 t241 t218 t219 t220 t221).bind fun t246 => (if t246 = true then (laws_FnExactNewSpan.j1 kj4 t235 (t244 != t224) t226 t227 t228 t236) else (laws_FnExactNewSpan.j1 kj4 t235 true t226 t227 t228 t236))) = some r := H
            have A35 := Aside0.mk A350
            clear A350
            have HC36 := Aside0.mk H
            clear H
            have hnb37 := NB233_225.out
            have hnc37 := NB225_233.out
            have hcz38_0 : wc.cell? ⟨gb233, 0, none⟩ = some (.int .i64 t226) := (blk_cell BK233.out 0).trans rfl
            have hcz38_1 : wc.cell? ⟨gb233, 1, none⟩ = some (.int .i64 t227) := (blk_cell BK233.out 1).trans rfl
            have hcz38_2 : wc.cell? ⟨gb233, 2, none⟩ = some (.int .i64 t228) := (blk_cell BK233.out 2).trans rfl
            have hcz38_3 : wc.cell? ⟨gb233, 3, none⟩ = some (.slice Ao14 t229.length co14) := (blk_cell BK233.out 3).trans rfl
            have hfz38_0 := blk_frozen BK233.out 0
            have hfz38_1 := blk_frozen BK233.out 1
            have hfz38_2 := blk_frozen BK233.out 2
            have hfz38_3 := blk_frozen BK233.out 3
            go_upto_region 14 with (first | ((with_reducible refine gate_callee (f := 51) rfl ?_); refine goesL_ (some 36) rfl rfl Try.func51 (by kernel_rfl) rfl #[.agg #[.int .i64 t226, .int .i64 t227, .int .i64 t228, .slice Ao14 t229.length co14], .int .i64 1] rfl (by (try simp only [List.map_toArray, List.map_cons, List.map_nil]); first | done | rfl | (simp only [List.length_drop, List.length_take]; rfl)) ?_; (with_reducible refine (laws_markSpan.calls kj4 t226 t227 t228 (fun k_ => some k_ = (.slice Ao14 t229.length co14 : Value).ownBlock) (.slice Ao14 t229.length co14) t229 1 t235 t236 w _ ?side1 ?side2 A26.out).mono ?_); (case side1 => repeat (first | (with_reducible first | exact HB.out | apply below_alloc | apply pw_below_drewN | apply below_drew1 | refine below_set ?_ GE225.out | refine below_set ?_ GE233.out) | exact HB.out)); (case side2 => exact Kd.R_tight rfl HO_234003.out); rintro e w39 ⟨rfl, hy0, hb, hkp⟩; refine ⟨_, rfl, ?_⟩; have n0_ := Aside0.mk (Kd.R_mono (ok' := fun k_ => some k_ ≠ (.slice Ao14 t229.length co14 : Value).ownBlock) (Kd.R_keptB (HO_226003.out) hkp (fun k_ hk_ hs_ => (hk_) hs_)) (fun k_ hk_ => hk_.1)); have n1_ := Aside0.mk (Kd.R_reok rfl hy0 (fun k_ e_ => HO_234003.out.1 k_ e_)); have n2_ := Aside0.mk (blk_kept (by (with_reducible repeat (first | refine blk_drewN ?_ _ | refine blk_drew ?_ | refine blk_alloc ?_ _)); exact BK225.out) hkp (fun hs_ => (fun e_ => (Kd.R_ne HO_234003.out BK225.out (by decide)) e_) hs_)); have n3_ := Aside0.mk (blk_kept (by (with_reducible repeat (first | refine blk_drewN ?_ _ | refine blk_drew ?_ | refine blk_alloc ?_ _)); exact BK233.out) hkp (fun hs_ => (fun e_ => (Kd.R_ne HO_234003.out BK233.out (by decide)) e_) hs_)); have n4_ := Aside0.mk (hb); clear HO_226003; clear HO_234003; clear BK225; clear BK233; clear HB; have HO_226003 := n0_; have HO_234003 := n1_; have BK225 := n2_; have BK233 := n3_; have HB := n4_; clear n0_ n1_ n2_ n3_ n4_; (try clear hb); (try clear hkp); (try clear hy0); have hcz40_0 : w39.cell? ⟨gb233, 0, none⟩ = some (.int .i64 t226) := (blk_cell BK233.out 0).trans rfl; have hcz40_1 : w39.cell? ⟨gb233, 1, none⟩ = some (.int .i64 t227) := (blk_cell BK233.out 1).trans rfl; have hcz40_2 : w39.cell? ⟨gb233, 2, none⟩ = some (.int .i64 t228) := (blk_cell BK233.out 2).trans rfl; have hcz40_3 : w39.cell? ⟨gb233, 3, none⟩ = some (.slice Ao14 t229.length co14) := (blk_cell BK233.out 3).trans rfl; have hfz40_0 := blk_frozen BK233.out 0; have hfz40_1 := blk_frozen BK233.out 1; have hfz40_2 := blk_frozen BK233.out 2; have hfz40_3 := blk_frozen BK233.out 3) | ((with_reducible refine gate_callee (f := 52) rfl ?_); refine goesL_ (some 39) rfl rfl Try.func52 (by kernel_rfl) rfl #[.agg #[.int .i64 t226, .int .i64 t227, .int .i64 t228, .slice Ao14 t236.length co14], .int .i64 1] rfl (by (try simp only [List.map_toArray, List.map_cons, List.map_nil]); first | done | (rw [show t236.length = t229.length from (Kd.R_reads' HO_234003.out).1.symm] <;> rfl) | rfl | (simp only [List.length_drop, List.length_take]; rfl)) ?_; (with_reducible refine (laws_heldSpan.calls kj4 t226 t227 t228 _ _ t236 1 t237 _ ?side1 ?side2 A27.out).mono ?_); (case side1 => repeat (first | exact (Kd.R_reads' HO_234003.out).2.2 | (with_reducible refine Kd.C_alloc ?_ _) | (with_reducible refine Kd.C_drewN ?_ _) | (with_reducible refine Kd.C_drew ?_))); (case side2 => rw [show t236.length = t229.length from (Kd.R_reads' HO_234003.out).1.symm]; exact (Kd.R_reads' HO_234003.out).2.1); rintro e w41 ⟨rfl, hb⟩; refine ⟨_, rfl, ?_⟩; have n0_ := Aside0.mk (Kd.R_below (by (with_reducible repeat (first | apply Kd.R_alloc | apply Kd.R_drewN | apply Kd.R_drew)); exact HO_226003.out) hb); have n1_ := Aside0.mk (Kd.R_below (by (with_reducible repeat (first | apply Kd.R_alloc | apply Kd.R_drewN | apply Kd.R_drew)); exact HO_234003.out) hb); have n2_ := Aside0.mk (blk_below (g := gb225) (o := .cells #[.int .i64 t218, .int .i64 t219, .int .i64 t220, .slice Ao9 t221.length co9] 64 (0, 0)) (by (with_reducible repeat (first | refine blk_drewN ?_ _ | refine blk_drew ?_ | refine blk_alloc ?_ _)); exact BK225.out) hb); have n3_ := Aside0.mk (blk_below (g := gb233) (o := .cells #[.int .i64 t226, .int .i64 t227, .int .i64 t228, .slice Ao14 t229.length co14] 64 (0, 0)) (by (with_reducible repeat (first | refine blk_drewN ?_ _ | refine blk_drew ?_ | refine blk_alloc ?_ _)); exact BK233.out) hb); have n4_ := Aside0.mk (below_step (by repeat (first | (with_reducible first | exact HB.out | apply below_alloc | apply pw_below_drewN | apply below_drew1 | refine below_set ?_ GE225.out | refine below_set ?_ GE233.out) | exact HB.out)) hb); clear HO_226003; clear HO_234003; clear BK225; clear BK233; clear HB; have HO_226003 := n0_; have HO_234003 := n1_; have BK225 := n2_; have BK233 := n3_; have HB := n4_; clear n0_ n1_ n2_ n3_ n4_; (try clear hb); (try clear hb2); (try clear hk); (try clear hi)) | ((with_reducible refine gate_callee (f := 50) rfl ?_); refine goesL_ (some 48) rfl rfl Try.func50 (by kernel_rfl) rfl #[.int .i64 a0, .int .i64 a1] rfl (by (try simp only [List.map_toArray, List.map_cons, List.map_nil]); first | done | rfl | (simp only [List.length_drop, List.length_take]; rfl)) ?_; (with_reducible refine (impl_NewSpan.calls kj4 a0 a1 t238 t239 t240 t241 t244 _ A35.out).mono ?_); rintro e w42 ⟨v242, rfl, ho0, hb⟩; refine ⟨_, rfl, ?_⟩; have n0_ := Aside0.mk (Kd.R_elder' (by (with_reducible repeat (first | apply Kd.R_alloc | apply Kd.R_drewN | apply Kd.R_drew)); exact HO_226003.out) (Kd.R_base ho0) hb); have n1_ := Aside0.mk (Kd.R_elder' (by (with_reducible repeat (first | apply Kd.R_alloc | apply Kd.R_drewN | apply Kd.R_drew)); exact HO_234003.out) (Kd.R_base ho0) hb); have n2_ := Aside0.mk (Kd.R_lower (Kd.R_new' (Kd.R_new' ho0 (Kd.R_lt (by (with_reducible repeat (first | apply Kd.R_alloc | apply Kd.R_drewN | apply Kd.R_drew)); exact HO_226003.out))) (Kd.R_lt (by (with_reducible repeat (first | apply Kd.R_alloc | apply Kd.R_drewN | apply Kd.R_drew)); exact HO_234003.out))) (below_size (by repeat (first | (with_reducible first | exact HB.out | apply below_alloc | apply pw_below_drewN | apply below_drew1 | refine below_set ?_ GE225.out | refine below_set ?_ GE233.out) | exact HB.out)))); have n3_ := Aside0.mk (blk_below (g := gb225) (o := .cells #[.int .i64 t218, .int .i64 t219, .int .i64 t220, .slice Ao9 t221.length co9] 64 (0, 0)) (by (with_reducible repeat (first | refine blk_drewN ?_ _ | refine blk_drew ?_ | refine blk_alloc ?_ _)); exact BK225.out) hb); have n4_ := Aside0.mk (blk_below (g := gb233) (o := .cells #[.int .i64 t226, .int .i64 t227, .int .i64 t228, .slice Ao14 t229.length co14] 64 (0, 0)) (by (with_reducible repeat (first | refine blk_drewN ?_ _ | refine blk_drew ?_ | refine blk_alloc ?_ _)); exact BK233.out) hb); have n5_ := Aside0.mk (below_step (by repeat (first | (with_reducible first | exact HB.out | apply below_alloc | apply pw_below_drewN | apply below_drew1 | refine below_set ?_ GE225.out | refine below_set ?_ GE233.out) | exact HB.out)) hb); clear HO_226003; clear HO_234003; clear BK225; clear BK233; clear HB; have HO_226003 := n0_; have HO_234003 := n1_; have HO243 := n2_; have BK225 := n3_; have BK233 := n4_; have HB := n5_; clear n0_ n1_ n2_ n3_ n4_ n5_; (try clear hb); (try clear hb2); (try clear hk); (try clear hi); (try clear ho0)) | ((with_reducible refine gate_dst (N := 11) rfl ?_); refine box_event ?hg (N := 11) ?hd (cs := #[.int .i64 0, .int .i64 0, .int .i64 0, .slice none 0 0]) (t := 64) ?hr ?_; (case hd => rfl); (case hg => rfl); (case hr => first | (go_simp; done) | (go_simp; rfl)); intro gb245 hg w43 hbox hb; have n0_ := Aside0.mk (Kd.R_below (by (with_reducible repeat (first | apply Kd.R_alloc | apply Kd.R_drewN | apply Kd.R_drew)); exact HO_226003.out) hb); have n1_ := Aside0.mk (Kd.R_below (by (with_reducible repeat (first | apply Kd.R_alloc | apply Kd.R_drewN | apply Kd.R_drew)); exact HO_234003.out) hb); have n2_ := Aside0.mk (Kd.R_below (by (with_reducible repeat (first | apply Kd.R_alloc | apply Kd.R_drewN | apply Kd.R_drew)); exact HO243.out) hb); have n3_ := Aside0.mk (blk_below (g := gb225) (o := .cells #[.int .i64 t218, .int .i64 t219, .int .i64 t220, .slice Ao9 t221.length co9] 64 (0, 0)) (by (with_reducible repeat (first | refine blk_drewN ?_ _ | refine blk_drew ?_ | refine blk_alloc ?_ _)); exact BK225.out) hb); have n4_ := Aside0.mk (blk_below (g := gb233) (o := .cells #[.int .i64 t226, .int .i64 t227, .int .i64 t228, .slice Ao14 t229.length co14] 64 (0, 0)) (by (with_reducible repeat (first | refine blk_drewN ?_ _ | refine blk_drew ?_ | refine blk_alloc ?_ _)); exact BK233.out) hb); have n5_ := Aside0.mk (below_step (by repeat (first | (with_reducible first | exact HB.out | apply below_alloc | apply pw_below_drewN | apply below_drew1 | refine below_set ?_ GE225.out | refine below_set ?_ GE233.out) | exact HB.out)) hb); have n6_ := Aside0.mk (hbox); have n7_ := Aside0.mk ((by rw [hg]; exact (below_size (by repeat (first | (with_reducible first | exact HB.out | apply below_alloc | apply pw_below_drewN | apply below_drew1 | refine below_set ?_ GE225.out | refine below_set ?_ GE233.out) | exact HB.out))) : w.heap.size ≤ gb245)); have n8_ := Aside0.mk ((by rw [hg]; exact (below_size (by repeat (first | (with_reducible first | exact HB.out | apply below_alloc | apply pw_below_drewN | apply below_drew1 | refine below_set ?_ GE225.out | refine below_set ?_ GE233.out) | exact HB.out))) : w.heap.size ≤ gb245)); have n9_ := Aside0.mk ((by rw [hg]; exact Nat.ne_of_lt (blk_lt (g := gb225) (o := .cells #[.int .i64 t218, .int .i64 t219, .int .i64 t220, .slice Ao9 t221.length co9] 64 (0, 0)) (by (with_reducible repeat (first | refine blk_drewN ?_ _ | refine blk_drew ?_ | refine blk_alloc ?_ _)); exact BK225.out)) : gb225 ≠ gb245)); have n10_ := Aside0.mk ((by rw [hg]; exact Nat.ne_of_gt (blk_lt (g := gb225) (o := .cells #[.int .i64 t218, .int .i64 t219, .int .i64 t220, .slice Ao9 t221.length co9] 64 (0, 0)) (by (with_reducible repeat (first | refine blk_drewN ?_ _ | refine blk_drew ?_ | refine blk_alloc ?_ _)); exact BK225.out)) : gb245 ≠ gb225)); have n11_ := Aside0.mk ((by rw [hg]; exact Nat.ne_of_lt (blk_lt (g := gb233) (o := .cells #[.int .i64 t226, .int .i64 t227, .int .i64 t228, .slice Ao14 t229.length co14] 64 (0, 0)) (by (with_reducible repeat (first | refine blk_drewN ?_ _ | refine blk_drew ?_ | refine blk_alloc ?_ _)); exact BK233.out)) : gb233 ≠ gb245)); have n12_ := Aside0.mk ((by rw [hg]; exact Nat.ne_of_gt (blk_lt (g := gb233) (o := .cells #[.int .i64 t226, .int .i64 t227, .int .i64 t228, .slice Ao14 t229.length co14] 64 (0, 0)) (by (with_reducible repeat (first | refine blk_drewN ?_ _ | refine blk_drew ?_ | refine blk_alloc ?_ _)); exact BK233.out)) : gb245 ≠ gb233)); clear HO_226003; clear HO_234003; clear HO243; clear BK225; clear BK233; clear HB; have HO_226003 := n0_; have HO_234003 := n1_; have HO243 := n2_; have BK225 := n3_; have BK233 := n4_; have HB := n5_; have BK245 := n6_; have GW245 := n7_; have GE245 := n8_; have NB225_245 := n9_; have NB245_225 := n10_; have NB233_245 := n11_; have NB245_233 := n12_; clear n0_ n1_ n2_ n3_ n4_ n5_ n6_ n7_ n8_ n9_ n10_ n11_ n12_; clear hb hbox hg; have hnb44 := NB245_225.out; have hnc44 := NB225_245.out; have hnb45 := NB245_233.out; have hnc45 := NB233_245.out; have hcz46_0 : w43.cell? ⟨gb245, 0, none⟩ = some (.int .i64 0) := (blk_cell BK245.out 0).trans rfl; have hcz46_1 : w43.cell? ⟨gb245, 1, none⟩ = some (.int .i64 0) := (blk_cell BK245.out 1).trans rfl; have hcz46_2 : w43.cell? ⟨gb245, 2, none⟩ = some (.int .i64 0) := (blk_cell BK245.out 2).trans rfl; have hcz46_3 : w43.cell? ⟨gb245, 3, none⟩ = some (.slice none 0 0) := (blk_cell BK245.out 3).trans rfl; have hfz46_0 := blk_frozen BK245.out 0; have hfz46_1 := blk_frozen BK245.out 1; have hfz46_2 := blk_frozen BK245.out 2; have hfz46_3 := blk_frozen BK245.out 3; obtain ⟨Ao47, co47, eo47⟩ := Kd.R_slice HO243.out; subst eo47))
            (try simp only [Act.put, List.setIfInBounds_toArray, List.set_cons_zero, List.set_cons_succ])
            go_cut [59] (fun v59 wc => ∃ (kq : Nat) (x59_35 : Bool), v59 = .bool x59_35 ∧ Aside0 (laws_FnExactNewSpan.j1 kq t235 x59_35 t226 t227 t228 t236 = some r) ∧ Aside0 (kq ≤ kj4) ∧ Aside0 (Kd.R (Kd.int .i64) 3 wc w.heap.size (fun k_ => some k_ ≠ ((.slice Ao14 t229.length co14) : Value).ownBlock ∧ some k_ ≠ ((.slice Ao47 t241.length co47) : Value).ownBlock) (.slice Ao9 t221.length co9) t221) ∧ Aside0 (Kd.R (Kd.int .i64) 3 wc w.heap.size (fun k_ => some k_ ≠ ((.slice Ao9 t221.length co9) : Value).ownBlock ∧ some k_ ≠ ((.slice Ao47 t241.length co47) : Value).ownBlock) (.slice Ao14 t229.length co14) t236) ∧ Aside0 (Kd.R (Kd.int .i64) 3 wc w.heap.size (fun k_ => some k_ ≠ ((.slice Ao9 t221.length co9) : Value).ownBlock ∧ some k_ ≠ ((.slice Ao14 t229.length co14) : Value).ownBlock) (.slice Ao47 t241.length co47) t241) ∧ Aside0 (wc.heap[gb225]? = some (.cells #[.int .i64 t218, .int .i64 t219, .int .i64 t220, (.slice Ao9 t221.length co9)] 64 (0, 0))) ∧ Aside0 (wc.heap[gb233]? = some (.cells #[.int .i64 t226, .int .i64 t227, .int .i64 t228, (.slice Ao14 t229.length co14)] 64 (0, 0))) ∧ Aside0 (wc.heap[gb245]? = some (.cells #[.int .i64 t238, .int .i64 t239, .int .i64 t240, (.slice Ao47 t241.length co47)] 64 (0, 0))) ∧ Aside0 (Below w.heap.size w wc))
            case first =>
              have H := HC36.out
              clear HC36
              replace H := Option.bind_eq_some_iff.mp H
              obtain ⟨t246, A480, H⟩ := H
              replace H : (if t246 = true then (laws_FnExactNewSpan.j1 kj4 t235 (t244 != t224) t226 t227 t228 t236) else (laws_FnExactNewSpan.j1 kj4 t235 true t226 t227 t228 t236)) = some r := H
              have A48 := Aside0.mk A480
              clear A480
              by_cases c49 : t246 = true
              · subst c49
                have H1 : (laws_FnExactNewSpan.j1 kj4 t235 (t244 != t224) t226 t227 t228 t236) = some r := by rw [if_pos rfl] at H; exact H
                clear H
                have H := H1
                clear H1
                have H' := Aside0.mk H
                clear H
                have hnb50 := NB245_225.out
                have hnc50 := NB225_245.out
                have hnb51 := NB245_233.out
                have hnc51 := NB233_245.out
                have hcz52_0 : w43.cell? ⟨gb245, 0, none⟩ = some (.int .i64 0) := (blk_cell BK245.out 0).trans rfl
                have hcz52_1 : w43.cell? ⟨gb245, 1, none⟩ = some (.int .i64 0) := (blk_cell BK245.out 1).trans rfl
                have hcz52_2 : w43.cell? ⟨gb245, 2, none⟩ = some (.int .i64 0) := (blk_cell BK245.out 2).trans rfl
                have hcz52_3 : w43.cell? ⟨gb245, 3, none⟩ = some (.slice none 0 0) := (blk_cell BK245.out 3).trans rfl
                have hfz52_0 := blk_frozen BK245.out 0
                have hfz52_1 := blk_frozen BK245.out 1
                have hfz52_2 := blk_frozen BK245.out 2
                have hfz52_3 := blk_frozen BK245.out 3
                have hnb53 := NB225_233.out
                have hnc53 := NB233_225.out
                have hcz54_0 : w43.cell? ⟨gb225, 0, none⟩ = some (.int .i64 t218) := (blk_cell BK225.out 0).trans rfl
                have hcz54_1 : w43.cell? ⟨gb225, 1, none⟩ = some (.int .i64 t219) := (blk_cell BK225.out 1).trans rfl
                have hcz54_2 : w43.cell? ⟨gb225, 2, none⟩ = some (.int .i64 t220) := (blk_cell BK225.out 2).trans rfl
                have hcz54_3 : w43.cell? ⟨gb225, 3, none⟩ = some (.slice Ao9 t221.length co9) := (blk_cell BK225.out 3).trans rfl
                have hfz54_0 := blk_frozen BK225.out 0
                have hfz54_1 := blk_frozen BK225.out 1
                have hfz54_2 := blk_frozen BK225.out 2
                have hfz54_3 := blk_frozen BK225.out 3
                go_wp2_with (first | ((with_reducible refine gate_callee (f := 48) rfl ?_); refine goesL_ (some 53) rfl rfl Try.func48 (by kernel_rfl) rfl #[.agg #[.int .i64 t238, .int .i64 t239, .int .i64 t240, .slice Ao47 t241.length co47], .agg #[.int .i64 t218, .int .i64 t219, .int .i64 t220, .slice Ao9 t221.length co9]] rfl (by (try simp only [List.map_toArray, List.map_cons, List.map_nil]); first | done | rfl | (simp only [List.length_drop, List.length_take]; rfl)) ?_; (with_reducible refine (laws_eqSpan.calls kj4 t238 t239 t240 _ _ t241 t218 t219 t220 _ _ t221 true _ ?side1 ?side2 ?side3 ?side4 A48.out).mono ?_); (case side1 => refine (Kd.R_reads' (e := 3) (base := w.heap.size) (ok := fun k_ => ((True ∧ some k_ ≠ (.slice Ao9 t221.length co9 : Value).ownBlock) ∧ some k_ ≠ (.slice Ao14 t229.length co14 : Value).ownBlock)) (n := t241.length) (c := co47) ?_).2.2; exact (by (with_reducible repeat (first | apply Kd.R_alloc | apply Kd.R_drewN | apply Kd.R_drew)); exact (Kd.R_mono (Kd.R_far (p := ⟨gb245, 3, none⟩) (Kd.R_far (p := ⟨gb245, 2, none⟩) (Kd.R_far (p := ⟨gb245, 1, none⟩) (Kd.R_far (p := ⟨gb245, 0, none⟩) (Kd.R_types HO243.out BK245.out (by decide)) (fun _ hk => hk.2) (.int .i64 t238)) (fun _ hk => hk.2) (.int .i64 t239)) (fun _ hk => hk.2) (.int .i64 t240)) (fun _ hk => hk.2) (.slice Ao47 t241.length co47)) (fun _ h_ => h_.1)))); (case side2 => exact (Kd.R_reads' HO243.out).2.1); (case side3 => refine (Kd.R_reads' (e := 3) (base := w.heap.size) (ok := fun k_ => (some k_ ≠ (.slice Ao14 t229.length co14 : Value).ownBlock ∧ some k_ ≠ (.slice Ao47 t241.length co47 : Value).ownBlock)) (n := t221.length) (c := co9) ?_).2.2; exact (by (with_reducible repeat (first | apply Kd.R_alloc | apply Kd.R_drewN | apply Kd.R_drew)); exact (Kd.R_mono (Kd.R_far (p := ⟨gb245, 3, none⟩) (Kd.R_far (p := ⟨gb245, 2, none⟩) (Kd.R_far (p := ⟨gb245, 1, none⟩) (Kd.R_far (p := ⟨gb245, 0, none⟩) (Kd.R_types HO_226003.out BK245.out (by decide)) (fun _ hk => hk.2) (.int .i64 t238)) (fun _ hk => hk.2) (.int .i64 t239)) (fun _ hk => hk.2) (.int .i64 t240)) (fun _ hk => hk.2) (.slice Ao47 t241.length co47)) (fun _ h_ => h_.1)))); (case side4 => exact (Kd.R_reads' HO_226003.out).2.1); rintro e w55 ⟨rfl, hb⟩; refine ⟨_, rfl, ?_⟩; have n0_ := Aside0.mk (Kd.R_below (by (with_reducible repeat (first | apply Kd.R_alloc | apply Kd.R_drewN | apply Kd.R_drew)); exact (Kd.R_mono (Kd.R_far (p := ⟨gb245, 3, none⟩) (Kd.R_far (p := ⟨gb245, 2, none⟩) (Kd.R_far (p := ⟨gb245, 1, none⟩) (Kd.R_far (p := ⟨gb245, 0, none⟩) (Kd.R_types HO_226003.out BK245.out (by decide)) (fun _ hk => hk.2) (.int .i64 t238)) (fun _ hk => hk.2) (.int .i64 t239)) (fun _ hk => hk.2) (.int .i64 t240)) (fun _ hk => hk.2) (.slice Ao47 t241.length co47)) (fun _ h_ => h_.1))) hb); have n1_ := Aside0.mk (Kd.R_below (by (with_reducible repeat (first | apply Kd.R_alloc | apply Kd.R_drewN | apply Kd.R_drew)); exact (Kd.R_mono (Kd.R_far (p := ⟨gb245, 3, none⟩) (Kd.R_far (p := ⟨gb245, 2, none⟩) (Kd.R_far (p := ⟨gb245, 1, none⟩) (Kd.R_far (p := ⟨gb245, 0, none⟩) (Kd.R_types HO_234003.out BK245.out (by decide)) (fun _ hk => hk.2) (.int .i64 t238)) (fun _ hk => hk.2) (.int .i64 t239)) (fun _ hk => hk.2) (.int .i64 t240)) (fun _ hk => hk.2) (.slice Ao47 t241.length co47)) (fun _ h_ => h_.1))) hb); have n2_ := Aside0.mk (Kd.R_below (by (with_reducible repeat (first | apply Kd.R_alloc | apply Kd.R_drewN | apply Kd.R_drew)); exact (Kd.R_mono (Kd.R_far (p := ⟨gb245, 3, none⟩) (Kd.R_far (p := ⟨gb245, 2, none⟩) (Kd.R_far (p := ⟨gb245, 1, none⟩) (Kd.R_far (p := ⟨gb245, 0, none⟩) (Kd.R_types HO243.out BK245.out (by decide)) (fun _ hk => hk.2) (.int .i64 t238)) (fun _ hk => hk.2) (.int .i64 t239)) (fun _ hk => hk.2) (.int .i64 t240)) (fun _ hk => hk.2) (.slice Ao47 t241.length co47)) (fun _ h_ => h_.1))) hb); have n3_ := Aside0.mk (blk_below (g := gb225) (o := .cells #[.int .i64 t218, .int .i64 t219, .int .i64 t220, .slice Ao9 t221.length co9] 64 (0, 0)) (by (with_reducible repeat (first | refine blk_drewN ?_ _ | refine blk_drew ?_ | refine blk_alloc ?_ _)); refine blk_far ?_ NB225_245.out _; (with_reducible repeat (first | refine blk_drewN ?_ _ | refine blk_drew ?_ | refine blk_alloc ?_ _)); refine blk_far ?_ NB225_245.out _; (with_reducible repeat (first | refine blk_drewN ?_ _ | refine blk_drew ?_ | refine blk_alloc ?_ _)); refine blk_far ?_ NB225_245.out _; (with_reducible repeat (first | refine blk_drewN ?_ _ | refine blk_drew ?_ | refine blk_alloc ?_ _)); refine blk_far ?_ NB225_245.out _; (with_reducible repeat (first | refine blk_drewN ?_ _ | refine blk_drew ?_ | refine blk_alloc ?_ _)); exact BK225.out) hb); have n4_ := Aside0.mk (blk_below (g := gb233) (o := .cells #[.int .i64 t226, .int .i64 t227, .int .i64 t228, .slice Ao14 t229.length co14] 64 (0, 0)) (by (with_reducible repeat (first | refine blk_drewN ?_ _ | refine blk_drew ?_ | refine blk_alloc ?_ _)); refine blk_far ?_ NB233_245.out _; (with_reducible repeat (first | refine blk_drewN ?_ _ | refine blk_drew ?_ | refine blk_alloc ?_ _)); refine blk_far ?_ NB233_245.out _; (with_reducible repeat (first | refine blk_drewN ?_ _ | refine blk_drew ?_ | refine blk_alloc ?_ _)); refine blk_far ?_ NB233_245.out _; (with_reducible repeat (first | refine blk_drewN ?_ _ | refine blk_drew ?_ | refine blk_alloc ?_ _)); refine blk_far ?_ NB233_245.out _; (with_reducible repeat (first | refine blk_drewN ?_ _ | refine blk_drew ?_ | refine blk_alloc ?_ _)); exact BK233.out) hb); have n5_ := Aside0.mk (blk_below (g := gb245) (o := .cells #[.int .i64 t238, .int .i64 t239, .int .i64 t240, .slice Ao47 t241.length co47] 64 (0, 0)) (by (with_reducible repeat (first | refine blk_drewN ?_ _ | refine blk_drew ?_ | refine blk_alloc ?_ _)); refine blk_put (cs := #[.int .i64 t238, .int .i64 t239, .int .i64 t240, .slice none 0 0]) ?_ 3 _ rfl; (with_reducible repeat (first | refine blk_drewN ?_ _ | refine blk_drew ?_ | refine blk_alloc ?_ _)); refine blk_put (cs := #[.int .i64 t238, .int .i64 t239, .int .i64 0, .slice none 0 0]) ?_ 2 _ rfl; (with_reducible repeat (first | refine blk_drewN ?_ _ | refine blk_drew ?_ | refine blk_alloc ?_ _)); refine blk_put (cs := #[.int .i64 t238, .int .i64 0, .int .i64 0, .slice none 0 0]) ?_ 1 _ rfl; (with_reducible repeat (first | refine blk_drewN ?_ _ | refine blk_drew ?_ | refine blk_alloc ?_ _)); refine blk_put (cs := #[.int .i64 0, .int .i64 0, .int .i64 0, .slice none 0 0]) ?_ 0 _ rfl; (with_reducible repeat (first | refine blk_drewN ?_ _ | refine blk_drew ?_ | refine blk_alloc ?_ _)); exact BK245.out) hb); have n6_ := Aside0.mk (below_step (by repeat (first | (with_reducible first | exact HB.out | apply below_alloc | apply pw_below_drewN | apply below_drew1 | refine below_set ?_ GE225.out | refine below_set ?_ GE233.out | refine below_set ?_ GE245.out) | exact HB.out)) hb); clear HO_226003; clear HO_234003; clear HO243; clear BK225; clear BK233; clear BK245; clear HB; have HO_226003 := n0_; have HO_234003 := n1_; have HO243 := n2_; have BK225 := n3_; have BK233 := n4_; have BK245 := n5_; have HB := n6_; clear n0_ n1_ n2_ n3_ n4_ n5_ n6_; (try clear hb); (try clear hb2); (try clear hk); (try clear hi)))
                go_meet
                case rel => exact ⟨_, ((t244 != t224)), (by first | rfl | (simp; done) | (simp [*]; done)), H', ⟨by have := HJ4.out; first | omega | exact Nat.le_refl _⟩, ⟨by (with_reducible repeat (first | apply Kd.R_alloc | apply Kd.R_drewN | apply Kd.R_drew)); exact HO_226003.out⟩, ⟨by (with_reducible repeat (first | apply Kd.R_alloc | apply Kd.R_drewN | apply Kd.R_drew)); exact HO_234003.out⟩, ⟨by (with_reducible repeat (first | apply Kd.R_alloc | apply Kd.R_drewN | apply Kd.R_drew)); exact Kd.R_mono HO243.out (fun _ hk => ⟨hk.1.2, hk.2⟩)⟩, ⟨by (with_reducible repeat (first | refine blk_drewN ?_ _ | refine blk_drew ?_ | refine blk_alloc ?_ _)); exact BK225.out⟩, ⟨by (with_reducible repeat (first | refine blk_drewN ?_ _ | refine blk_drew ?_ | refine blk_alloc ?_ _)); exact BK233.out⟩, ⟨by (with_reducible repeat (first | refine blk_drewN ?_ _ | refine blk_drew ?_ | refine blk_alloc ?_ _)); exact BK245.out⟩, ⟨by repeat (first | (with_reducible first | exact HB.out | apply below_alloc | apply pw_below_drewN | apply below_drew1 | refine below_set ?_ GE225.out | refine below_set ?_ GE233.out | refine below_set ?_ GE245.out) | exact HB.out)⟩⟩
              · replace c49 := Bool.eq_false_iff.mpr c49
                subst c49
                have H1 : (laws_FnExactNewSpan.j1 kj4 t235 true t226 t227 t228 t236) = some r := by rw [if_neg (show ¬ (false = true) by decide)] at H; exact H
                clear H
                have H := H1
                clear H1
                have H' := Aside0.mk H
                clear H
                have hnb56 := NB245_225.out
                have hnc56 := NB225_245.out
                have hnb57 := NB245_233.out
                have hnc57 := NB233_245.out
                have hcz58_0 : w43.cell? ⟨gb245, 0, none⟩ = some (.int .i64 0) := (blk_cell BK245.out 0).trans rfl
                have hcz58_1 : w43.cell? ⟨gb245, 1, none⟩ = some (.int .i64 0) := (blk_cell BK245.out 1).trans rfl
                have hcz58_2 : w43.cell? ⟨gb245, 2, none⟩ = some (.int .i64 0) := (blk_cell BK245.out 2).trans rfl
                have hcz58_3 : w43.cell? ⟨gb245, 3, none⟩ = some (.slice none 0 0) := (blk_cell BK245.out 3).trans rfl
                have hfz58_0 := blk_frozen BK245.out 0
                have hfz58_1 := blk_frozen BK245.out 1
                have hfz58_2 := blk_frozen BK245.out 2
                have hfz58_3 := blk_frozen BK245.out 3
                have hnb59 := NB225_233.out
                have hnc59 := NB233_225.out
                have hcz60_0 : w43.cell? ⟨gb225, 0, none⟩ = some (.int .i64 t218) := (blk_cell BK225.out 0).trans rfl
                have hcz60_1 : w43.cell? ⟨gb225, 1, none⟩ = some (.int .i64 t219) := (blk_cell BK225.out 1).trans rfl
                have hcz60_2 : w43.cell? ⟨gb225, 2, none⟩ = some (.int .i64 t220) := (blk_cell BK225.out 2).trans rfl
                have hcz60_3 : w43.cell? ⟨gb225, 3, none⟩ = some (.slice Ao9 t221.length co9) := (blk_cell BK225.out 3).trans rfl
                have hfz60_0 := blk_frozen BK225.out 0
                have hfz60_1 := blk_frozen BK225.out 1
                have hfz60_2 := blk_frozen BK225.out 2
                have hfz60_3 := blk_frozen BK225.out 3
                go_wp2_with (first | ((with_reducible refine gate_callee (f := 48) rfl ?_); refine goesL_ (some 53) rfl rfl Try.func48 (by kernel_rfl) rfl #[.agg #[.int .i64 t238, .int .i64 t239, .int .i64 t240, .slice Ao47 t241.length co47], .agg #[.int .i64 t218, .int .i64 t219, .int .i64 t220, .slice Ao9 t221.length co9]] rfl (by (try simp only [List.map_toArray, List.map_cons, List.map_nil]); first | done | rfl | (simp only [List.length_drop, List.length_take]; rfl)) ?_; (with_reducible refine (laws_eqSpan.calls kj4 t238 t239 t240 _ _ t241 t218 t219 t220 _ _ t221 false _ ?side1 ?side2 ?side3 ?side4 A48.out).mono ?_); (case side1 => refine (Kd.R_reads' (e := 3) (base := w.heap.size) (ok := fun k_ => ((True ∧ some k_ ≠ (.slice Ao9 t221.length co9 : Value).ownBlock) ∧ some k_ ≠ (.slice Ao14 t229.length co14 : Value).ownBlock)) (n := t241.length) (c := co47) ?_).2.2; exact (by (with_reducible repeat (first | apply Kd.R_alloc | apply Kd.R_drewN | apply Kd.R_drew)); exact (Kd.R_mono (Kd.R_far (p := ⟨gb245, 3, none⟩) (Kd.R_far (p := ⟨gb245, 2, none⟩) (Kd.R_far (p := ⟨gb245, 1, none⟩) (Kd.R_far (p := ⟨gb245, 0, none⟩) (Kd.R_types HO243.out BK245.out (by decide)) (fun _ hk => hk.2) (.int .i64 t238)) (fun _ hk => hk.2) (.int .i64 t239)) (fun _ hk => hk.2) (.int .i64 t240)) (fun _ hk => hk.2) (.slice Ao47 t241.length co47)) (fun _ h_ => h_.1)))); (case side2 => exact (Kd.R_reads' HO243.out).2.1); (case side3 => refine (Kd.R_reads' (e := 3) (base := w.heap.size) (ok := fun k_ => (some k_ ≠ (.slice Ao14 t229.length co14 : Value).ownBlock ∧ some k_ ≠ (.slice Ao47 t241.length co47 : Value).ownBlock)) (n := t221.length) (c := co9) ?_).2.2; exact (by (with_reducible repeat (first | apply Kd.R_alloc | apply Kd.R_drewN | apply Kd.R_drew)); exact (Kd.R_mono (Kd.R_far (p := ⟨gb245, 3, none⟩) (Kd.R_far (p := ⟨gb245, 2, none⟩) (Kd.R_far (p := ⟨gb245, 1, none⟩) (Kd.R_far (p := ⟨gb245, 0, none⟩) (Kd.R_types HO_226003.out BK245.out (by decide)) (fun _ hk => hk.2) (.int .i64 t238)) (fun _ hk => hk.2) (.int .i64 t239)) (fun _ hk => hk.2) (.int .i64 t240)) (fun _ hk => hk.2) (.slice Ao47 t241.length co47)) (fun _ h_ => h_.1)))); (case side4 => exact (Kd.R_reads' HO_226003.out).2.1); rintro e w61 ⟨rfl, hb⟩; refine ⟨_, rfl, ?_⟩; have n0_ := Aside0.mk (Kd.R_below (by (with_reducible repeat (first | apply Kd.R_alloc | apply Kd.R_drewN | apply Kd.R_drew)); exact (Kd.R_mono (Kd.R_far (p := ⟨gb245, 3, none⟩) (Kd.R_far (p := ⟨gb245, 2, none⟩) (Kd.R_far (p := ⟨gb245, 1, none⟩) (Kd.R_far (p := ⟨gb245, 0, none⟩) (Kd.R_types HO_226003.out BK245.out (by decide)) (fun _ hk => hk.2) (.int .i64 t238)) (fun _ hk => hk.2) (.int .i64 t239)) (fun _ hk => hk.2) (.int .i64 t240)) (fun _ hk => hk.2) (.slice Ao47 t241.length co47)) (fun _ h_ => h_.1))) hb); have n1_ := Aside0.mk (Kd.R_below (by (with_reducible repeat (first | apply Kd.R_alloc | apply Kd.R_drewN | apply Kd.R_drew)); exact (Kd.R_mono (Kd.R_far (p := ⟨gb245, 3, none⟩) (Kd.R_far (p := ⟨gb245, 2, none⟩) (Kd.R_far (p := ⟨gb245, 1, none⟩) (Kd.R_far (p := ⟨gb245, 0, none⟩) (Kd.R_types HO_234003.out BK245.out (by decide)) (fun _ hk => hk.2) (.int .i64 t238)) (fun _ hk => hk.2) (.int .i64 t239)) (fun _ hk => hk.2) (.int .i64 t240)) (fun _ hk => hk.2) (.slice Ao47 t241.length co47)) (fun _ h_ => h_.1))) hb); have n2_ := Aside0.mk (Kd.R_below (by (with_reducible repeat (first | apply Kd.R_alloc | apply Kd.R_drewN | apply Kd.R_drew)); exact (Kd.R_mono (Kd.R_far (p := ⟨gb245, 3, none⟩) (Kd.R_far (p := ⟨gb245, 2, none⟩) (Kd.R_far (p := ⟨gb245, 1, none⟩) (Kd.R_far (p := ⟨gb245, 0, none⟩) (Kd.R_types HO243.out BK245.out (by decide)) (fun _ hk => hk.2) (.int .i64 t238)) (fun _ hk => hk.2) (.int .i64 t239)) (fun _ hk => hk.2) (.int .i64 t240)) (fun _ hk => hk.2) (.slice Ao47 t241.length co47)) (fun _ h_ => h_.1))) hb); have n3_ := Aside0.mk (blk_below (g := gb225) (o := .cells #[.int .i64 t218, .int .i64 t219, .int .i64 t220, .slice Ao9 t221.length co9] 64 (0, 0)) (by (with_reducible repeat (first | refine blk_drewN ?_ _ | refine blk_drew ?_ | refine blk_alloc ?_ _)); refine blk_far ?_ NB225_245.out _; (with_reducible repeat (first | refine blk_drewN ?_ _ | refine blk_drew ?_ | refine blk_alloc ?_ _)); refine blk_far ?_ NB225_245.out _; (with_reducible repeat (first | refine blk_drewN ?_ _ | refine blk_drew ?_ | refine blk_alloc ?_ _)); refine blk_far ?_ NB225_245.out _; (with_reducible repeat (first | refine blk_drewN ?_ _ | refine blk_drew ?_ | refine blk_alloc ?_ _)); refine blk_far ?_ NB225_245.out _; (with_reducible repeat (first | refine blk_drewN ?_ _ | refine blk_drew ?_ | refine blk_alloc ?_ _)); exact BK225.out) hb); have n4_ := Aside0.mk (blk_below (g := gb233) (o := .cells #[.int .i64 t226, .int .i64 t227, .int .i64 t228, .slice Ao14 t229.length co14] 64 (0, 0)) (by (with_reducible repeat (first | refine blk_drewN ?_ _ | refine blk_drew ?_ | refine blk_alloc ?_ _)); refine blk_far ?_ NB233_245.out _; (with_reducible repeat (first | refine blk_drewN ?_ _ | refine blk_drew ?_ | refine blk_alloc ?_ _)); refine blk_far ?_ NB233_245.out _; (with_reducible repeat (first | refine blk_drewN ?_ _ | refine blk_drew ?_ | refine blk_alloc ?_ _)); refine blk_far ?_ NB233_245.out _; (with_reducible repeat (first | refine blk_drewN ?_ _ | refine blk_drew ?_ | refine blk_alloc ?_ _)); refine blk_far ?_ NB233_245.out _; (with_reducible repeat (first | refine blk_drewN ?_ _ | refine blk_drew ?_ | refine blk_alloc ?_ _)); exact BK233.out) hb); have n5_ := Aside0.mk (blk_below (g := gb245) (o := .cells #[.int .i64 t238, .int .i64 t239, .int .i64 t240, .slice Ao47 t241.length co47] 64 (0, 0)) (by (with_reducible repeat (first | refine blk_drewN ?_ _ | refine blk_drew ?_ | refine blk_alloc ?_ _)); refine blk_put (cs := #[.int .i64 t238, .int .i64 t239, .int .i64 t240, .slice none 0 0]) ?_ 3 _ rfl; (with_reducible repeat (first | refine blk_drewN ?_ _ | refine blk_drew ?_ | refine blk_alloc ?_ _)); refine blk_put (cs := #[.int .i64 t238, .int .i64 t239, .int .i64 0, .slice none 0 0]) ?_ 2 _ rfl; (with_reducible repeat (first | refine blk_drewN ?_ _ | refine blk_drew ?_ | refine blk_alloc ?_ _)); refine blk_put (cs := #[.int .i64 t238, .int .i64 0, .int .i64 0, .slice none 0 0]) ?_ 1 _ rfl; (with_reducible repeat (first | refine blk_drewN ?_ _ | refine blk_drew ?_ | refine blk_alloc ?_ _)); refine blk_put (cs := #[.int .i64 0, .int .i64 0, .int .i64 0, .slice none 0 0]) ?_ 0 _ rfl; (with_reducible repeat (first | refine blk_drewN ?_ _ | refine blk_drew ?_ | refine blk_alloc ?_ _)); exact BK245.out) hb); have n6_ := Aside0.mk (below_step (by repeat (first | (with_reducible first | exact HB.out | apply below_alloc | apply pw_below_drewN | apply below_drew1 | refine below_set ?_ GE225.out | refine below_set ?_ GE233.out | refine below_set ?_ GE245.out) | exact HB.out)) hb); clear HO_226003; clear HO_234003; clear HO243; clear BK225; clear BK233; clear BK245; clear HB; have HO_226003 := n0_; have HO_234003 := n1_; have HO243 := n2_; have BK225 := n3_; have BK233 := n4_; have BK245 := n5_; have HB := n6_; clear n0_ n1_ n2_ n3_ n4_ n5_ n6_; (try clear hb); (try clear hb2); (try clear hk); (try clear hi)))
                go_meet
                case rel => exact ⟨_, (true), (by first | rfl | (simp; done) | (simp [*]; done)), H', ⟨by have := HJ4.out; first | omega | exact Nat.le_refl _⟩, ⟨by (with_reducible repeat (first | apply Kd.R_alloc | apply Kd.R_drewN | apply Kd.R_drew)); exact HO_226003.out⟩, ⟨by (with_reducible repeat (first | apply Kd.R_alloc | apply Kd.R_drewN | apply Kd.R_drew)); exact HO_234003.out⟩, ⟨by (with_reducible repeat (first | apply Kd.R_alloc | apply Kd.R_drewN | apply Kd.R_drew)); exact Kd.R_mono HO243.out (fun _ hk => ⟨hk.1.2, hk.2⟩)⟩, ⟨by (with_reducible repeat (first | refine blk_drewN ?_ _ | refine blk_drew ?_ | refine blk_alloc ?_ _)); exact BK225.out⟩, ⟨by (with_reducible repeat (first | refine blk_drewN ?_ _ | refine blk_drew ?_ | refine blk_alloc ?_ _)); exact BK233.out⟩, ⟨by (with_reducible repeat (first | refine blk_drewN ?_ _ | refine blk_drew ?_ | refine blk_alloc ?_ _)); exact BK245.out⟩, ⟨by repeat (first | (with_reducible first | exact HB.out | apply below_alloc | apply pw_below_drewN | apply below_drew1 | refine below_set ?_ GE225.out | refine below_set ?_ GE233.out | refine below_set ?_ GE245.out) | exact HB.out)⟩⟩
            case rest =>
              clear HC36
              try clear c1
              try clear c2
              try clear p2
              try clear c3
              try clear c4
              try clear c5
              try clear c12
              try clear c16
              try clear c17
              try clear c21
              try clear c25
              try clear c28
              try clear c28b0
              try clear c29
              try clear c34
              try clear c34b0
              try clear c34b1
              try clear c37
              try clear c44
              try clear c45
              try clear c48
              try clear c49
              try clear c50
              try clear c51
              try clear c52
              try clear c53
              try clear c56
              try clear c57
              try clear c59
              try clear hcz13_0
              try clear hcz13_1
              try clear hcz13_2
              try clear hcz13_3
              try clear hcz18_0
              try clear hcz18_1
              try clear hcz18_2
              try clear hcz18_3
              try clear hcz19_0
              try clear hcz19_1
              try clear hcz19_2
              try clear hcz19_3
              try clear hcz22_0
              try clear hcz22_1
              try clear hcz22_2
              try clear hcz22_3
              try clear hcz23_0
              try clear hcz23_1
              try clear hcz23_2
              try clear hcz23_3
              try clear hcz30_0
              try clear hcz30_1
              try clear hcz30_2
              try clear hcz30_3
              try clear hcz32_0
              try clear hcz32_1
              try clear hcz32_2
              try clear hcz32_3
              try clear hcz38_0
              try clear hcz38_1
              try clear hcz38_2
              try clear hcz38_3
              try clear hcz40_0
              try clear hcz40_1
              try clear hcz40_2
              try clear hcz40_3
              try clear hcz46_0
              try clear hcz46_1
              try clear hcz46_2
              try clear hcz46_3
              try clear hcz52_0
              try clear hcz52_1
              try clear hcz52_2
              try clear hcz52_3
              try clear hcz54_0
              try clear hcz54_1
              try clear hcz54_2
              try clear hcz54_3
              try clear hcz58_0
              try clear hcz58_1
              try clear hcz58_2
              try clear hcz58_3
              try clear hcz60_0
              try clear hcz60_1
              try clear hcz60_2
              try clear hcz60_3
              try clear hcz8_0
              try clear hcz8_1
              try clear hcz8_2
              try clear hcz8_3
              try clear hfz13_0
              try clear hfz13_1
              try clear hfz13_2
              try clear hfz13_3
              try clear hfz18_0
              try clear hfz18_1
              try clear hfz18_2
              try clear hfz18_3
              try clear hfz19_0
              try clear hfz19_1
              try clear hfz19_2
              try clear hfz19_3
              try clear hfz22_0
              try clear hfz22_1
              try clear hfz22_2
              try clear hfz22_3
              try clear hfz23_0
              try clear hfz23_1
              try clear hfz23_2
              try clear hfz23_3
              try clear hfz30_0
              try clear hfz30_1
              try clear hfz30_2
              try clear hfz30_3
              try clear hfz32_0
              try clear hfz32_1
              try clear hfz32_2
              try clear hfz32_3
              try clear hfz38_0
              try clear hfz38_1
              try clear hfz38_2
              try clear hfz38_3
              try clear hfz40_0
              try clear hfz40_1
              try clear hfz40_2
              try clear hfz40_3
              try clear hfz46_0
              try clear hfz46_1
              try clear hfz46_2
              try clear hfz46_3
              try clear hfz52_0
              try clear hfz52_1
              try clear hfz52_2
              try clear hfz52_3
              try clear hfz54_0
              try clear hfz54_1
              try clear hfz54_2
              try clear hfz54_3
              try clear hfz58_0
              try clear hfz58_1
              try clear hfz58_2
              try clear hfz58_3
              try clear hfz60_0
              try clear hfz60_1
              try clear hfz60_2
              try clear hfz60_3
              try clear hfz8_0
              try clear hfz8_1
              try clear hfz8_2
              try clear hfz8_3
              try clear p2
              obtain ⟨kq, x59_35, rfl, HA, HJ35, HO_226003, HO_234003, HO_246003, BK225, BK233, BK245, HB⟩ := hcut
              have hl234003_35 := (Kd.R_reads' HO_234003.out).1
              rw [hl234003_35] at HO_234003
              (try simp only [hl234003_35])
              (try simp only [hl234003_35] at BK225)
              (try simp only [hl234003_35] at BK233)
              (try simp only [hl234003_35] at BK245)
              (try simp only [hl234003_35] at HO_226003)
              (try simp only [hl234003_35] at HO_246003)
              cases kq with
              | zero => exact absurd HA.out (by simp [laws_FnExactNewSpan.j1])
              | succ kj35 =>
                have H := HA.out
                clear HA
                simp only [laws_FnExactNewSpan.j1] at H
                by_cases c62 : x59_35 = true
                · subst c62
                  have H1 : (some false) = some r := by rw [if_pos rfl] at H; exact H
                  clear H
                  have H := H1
                  clear H1
                  obtain rfl := Option.some.inj H
                  go_wp2
                  go_ret
                  exact ⟨by first | rfl | (simp [errW_none, errW_some] <;> rfl) | (simp [*, errW_none, errW_some] <;> rfl), by repeat (first | (with_reducible first | exact HB.out | apply below_alloc | apply pw_below_drewN | apply below_drew1 | refine below_set ?_ GE225.out | refine below_set ?_ GE233.out | refine below_set ?_ GE245.out) | exact HB.out)⟩
                · replace c62 := Bool.eq_false_iff.mpr c62
                  subst c62
                  have H1 : ((laws_heldSpan.f kj35 t226 t227 t228 t236 1).bind fun t247 => (if t247 < 0 then (some false) else (if t247 = t235 then (some true) else (some false)))) = some r := by rw [if_neg (show ¬ (false = true) by decide)] at H; exact H
                  clear H
                  have H := H1
                  clear H1
                  replace H := Option.bind_eq_some_iff.mp H
                  obtain ⟨t247, A630, H⟩ := H
                  replace H : (if t247 < 0 then (some false) else (if t247 = t235 then (some true) else (some false))) = some r := H
                  have A63 := Aside0.mk A630
                  clear A630
                  by_cases c64 : t247 < 0
                  · rw [if_pos c64] at H
                    have c64b0 : decide (t247 < 0) = true := decide_eq_true c64
                    clear c64
                    obtain rfl := Option.some.inj H
                    have hnb65 := NB233_225.out
                    have hnc65 := NB225_233.out
                    have hnb66 := NB233_245.out
                    have hnc66 := NB245_233.out
                    have hcz67_0 : wc.cell? ⟨gb233, 0, none⟩ = some (.int .i64 t226) := (blk_cell BK233.out 0).trans rfl
                    have hcz67_1 : wc.cell? ⟨gb233, 1, none⟩ = some (.int .i64 t227) := (blk_cell BK233.out 1).trans rfl
                    have hcz67_2 : wc.cell? ⟨gb233, 2, none⟩ = some (.int .i64 t228) := (blk_cell BK233.out 2).trans rfl
                    have hcz67_3 : wc.cell? ⟨gb233, 3, none⟩ = some (.slice Ao14 t236.length co14) := (blk_cell BK233.out 3).trans rfl
                    have hfz67_0 := blk_frozen BK233.out 0
                    have hfz67_1 := blk_frozen BK233.out 1
                    have hfz67_2 := blk_frozen BK233.out 2
                    have hfz67_3 := blk_frozen BK233.out 3
                    go_wp2_with (first | ((with_reducible refine gate_callee (f := 52) rfl ?_); refine goesL_ (some 62) rfl rfl Try.func52 (by kernel_rfl) rfl #[.agg #[.int .i64 t226, .int .i64 t227, .int .i64 t228, .slice Ao14 t236.length co14], .int .i64 1] rfl (by (try simp only [List.map_toArray, List.map_cons, List.map_nil]); first | done | rfl | (simp only [List.length_drop, List.length_take]; rfl)) ?_; (with_reducible refine (laws_heldSpan.calls kj35 t226 t227 t228 _ _ t236 1 t247 _ ?side1 ?side2 A63.out).mono ?_); (case side1 => repeat (first | exact (Kd.R_reads' HO_234003.out).2.2 | (with_reducible refine Kd.C_alloc ?_ _) | (with_reducible refine Kd.C_drewN ?_ _) | (with_reducible refine Kd.C_drew ?_))); (case side2 => exact (Kd.R_reads' HO_234003.out).2.1); rintro e w68 ⟨rfl, hb⟩; refine ⟨_, rfl, ?_⟩; have n0_ := Aside0.mk (Kd.R_below (by (with_reducible repeat (first | apply Kd.R_alloc | apply Kd.R_drewN | apply Kd.R_drew)); exact HO_226003.out) hb); have n1_ := Aside0.mk (Kd.R_below (by (with_reducible repeat (first | apply Kd.R_alloc | apply Kd.R_drewN | apply Kd.R_drew)); exact HO_234003.out) hb); have n2_ := Aside0.mk (Kd.R_below (by (with_reducible repeat (first | apply Kd.R_alloc | apply Kd.R_drewN | apply Kd.R_drew)); exact HO_246003.out) hb); have n3_ := Aside0.mk (blk_below (g := gb225) (o := .cells #[.int .i64 t218, .int .i64 t219, .int .i64 t220, .slice Ao9 t221.length co9] 64 (0, 0)) (by (with_reducible repeat (first | refine blk_drewN ?_ _ | refine blk_drew ?_ | refine blk_alloc ?_ _)); exact BK225.out) hb); have n4_ := Aside0.mk (blk_below (g := gb233) (o := .cells #[.int .i64 t226, .int .i64 t227, .int .i64 t228, .slice Ao14 t236.length co14] 64 (0, 0)) (by (with_reducible repeat (first | refine blk_drewN ?_ _ | refine blk_drew ?_ | refine blk_alloc ?_ _)); exact BK233.out) hb); have n5_ := Aside0.mk (blk_below (g := gb245) (o := .cells #[.int .i64 t238, .int .i64 t239, .int .i64 t240, .slice Ao47 t241.length co47] 64 (0, 0)) (by (with_reducible repeat (first | refine blk_drewN ?_ _ | refine blk_drew ?_ | refine blk_alloc ?_ _)); exact BK245.out) hb); have n6_ := Aside0.mk (below_step (by repeat (first | (with_reducible first | exact HB.out | apply below_alloc | apply pw_below_drewN | apply below_drew1 | refine below_set ?_ GE225.out | refine below_set ?_ GE233.out | refine below_set ?_ GE245.out) | exact HB.out)) hb); clear HO_226003; clear HO_234003; clear HO_246003; clear BK225; clear BK233; clear BK245; clear HB; have HO_226003 := n0_; have HO_234003 := n1_; have HO_246003 := n2_; have BK225 := n3_; have BK233 := n4_; have BK245 := n5_; have HB := n6_; clear n0_ n1_ n2_ n3_ n4_ n5_ n6_; (try clear hb); (try clear hb2); (try clear hk); (try clear hi)))
                    go_ret
                    exact ⟨by first | rfl | (simp [errW_none, errW_some] <;> rfl) | (simp [*, errW_none, errW_some] <;> rfl), by repeat (first | (with_reducible first | exact HB.out | apply below_alloc | apply pw_below_drewN | apply below_drew1 | refine below_set ?_ GE225.out | refine below_set ?_ GE233.out | refine below_set ?_ GE245.out) | exact HB.out)⟩
                  · rw [if_neg c64] at H
                    have c64b0 : decide (t247 < 0) = false := decide_eq_false c64
                    clear c64
                    by_cases c69 : t247 = t235
                    · rw [if_pos c69] at H
                      have c69b0 : (t247 == t235) = true := beq_iff_eq.mpr c69
                      have c69b1 : (t247 != t235) = false := bne_eq_false_iff_eq.mpr c69
                      clear c69
                      obtain rfl := Option.some.inj H
                      have hnb70 := NB233_225.out
                      have hnc70 := NB225_233.out
                      have hnb71 := NB233_245.out
                      have hnc71 := NB245_233.out
                      have hcz72_0 : wc.cell? ⟨gb233, 0, none⟩ = some (.int .i64 t226) := (blk_cell BK233.out 0).trans rfl
                      have hcz72_1 : wc.cell? ⟨gb233, 1, none⟩ = some (.int .i64 t227) := (blk_cell BK233.out 1).trans rfl
                      have hcz72_2 : wc.cell? ⟨gb233, 2, none⟩ = some (.int .i64 t228) := (blk_cell BK233.out 2).trans rfl
                      have hcz72_3 : wc.cell? ⟨gb233, 3, none⟩ = some (.slice Ao14 t236.length co14) := (blk_cell BK233.out 3).trans rfl
                      have hfz72_0 := blk_frozen BK233.out 0
                      have hfz72_1 := blk_frozen BK233.out 1
                      have hfz72_2 := blk_frozen BK233.out 2
                      have hfz72_3 := blk_frozen BK233.out 3
                      go_wp2_with (first | ((with_reducible refine gate_callee (f := 52) rfl ?_); refine goesL_ (some 62) rfl rfl Try.func52 (by kernel_rfl) rfl #[.agg #[.int .i64 t226, .int .i64 t227, .int .i64 t228, .slice Ao14 t236.length co14], .int .i64 1] rfl (by (try simp only [List.map_toArray, List.map_cons, List.map_nil]); first | done | rfl | (simp only [List.length_drop, List.length_take]; rfl)) ?_; (with_reducible refine (laws_heldSpan.calls kj35 t226 t227 t228 _ _ t236 1 t247 _ ?side1 ?side2 A63.out).mono ?_); (case side1 => repeat (first | exact (Kd.R_reads' HO_234003.out).2.2 | (with_reducible refine Kd.C_alloc ?_ _) | (with_reducible refine Kd.C_drewN ?_ _) | (with_reducible refine Kd.C_drew ?_))); (case side2 => exact (Kd.R_reads' HO_234003.out).2.1); rintro e w73 ⟨rfl, hb⟩; refine ⟨_, rfl, ?_⟩; have n0_ := Aside0.mk (Kd.R_below (by (with_reducible repeat (first | apply Kd.R_alloc | apply Kd.R_drewN | apply Kd.R_drew)); exact HO_226003.out) hb); have n1_ := Aside0.mk (Kd.R_below (by (with_reducible repeat (first | apply Kd.R_alloc | apply Kd.R_drewN | apply Kd.R_drew)); exact HO_234003.out) hb); have n2_ := Aside0.mk (Kd.R_below (by (with_reducible repeat (first | apply Kd.R_alloc | apply Kd.R_drewN | apply Kd.R_drew)); exact HO_246003.out) hb); have n3_ := Aside0.mk (blk_below (g := gb225) (o := .cells #[.int .i64 t218, .int .i64 t219, .int .i64 t220, .slice Ao9 t221.length co9] 64 (0, 0)) (by (with_reducible repeat (first | refine blk_drewN ?_ _ | refine blk_drew ?_ | refine blk_alloc ?_ _)); exact BK225.out) hb); have n4_ := Aside0.mk (blk_below (g := gb233) (o := .cells #[.int .i64 t226, .int .i64 t227, .int .i64 t228, .slice Ao14 t236.length co14] 64 (0, 0)) (by (with_reducible repeat (first | refine blk_drewN ?_ _ | refine blk_drew ?_ | refine blk_alloc ?_ _)); exact BK233.out) hb); have n5_ := Aside0.mk (blk_below (g := gb245) (o := .cells #[.int .i64 t238, .int .i64 t239, .int .i64 t240, .slice Ao47 t241.length co47] 64 (0, 0)) (by (with_reducible repeat (first | refine blk_drewN ?_ _ | refine blk_drew ?_ | refine blk_alloc ?_ _)); exact BK245.out) hb); have n6_ := Aside0.mk (below_step (by repeat (first | (with_reducible first | exact HB.out | apply below_alloc | apply pw_below_drewN | apply below_drew1 | refine below_set ?_ GE225.out | refine below_set ?_ GE233.out | refine below_set ?_ GE245.out) | exact HB.out)) hb); clear HO_226003; clear HO_234003; clear HO_246003; clear BK225; clear BK233; clear BK245; clear HB; have HO_226003 := n0_; have HO_234003 := n1_; have HO_246003 := n2_; have BK225 := n3_; have BK233 := n4_; have BK245 := n5_; have HB := n6_; clear n0_ n1_ n2_ n3_ n4_ n5_ n6_; (try clear hb); (try clear hb2); (try clear hk); (try clear hi)))
                      go_ret
                      exact ⟨by first | rfl | (simp [errW_none, errW_some] <;> rfl) | (simp [*, errW_none, errW_some] <;> rfl), by repeat (first | (with_reducible first | exact HB.out | apply below_alloc | apply pw_below_drewN | apply below_drew1 | refine below_set ?_ GE225.out | refine below_set ?_ GE233.out | refine below_set ?_ GE245.out) | exact HB.out)⟩
                    · rw [if_neg c69] at H
                      have c69b0 : (t247 == t235) = false := beq_eq_false_iff_ne.mpr c69
                      have c69b1 : (t247 != t235) = true := bne_iff_ne.mpr c69
                      obtain rfl := Option.some.inj H
                      have hnb74 := NB233_225.out
                      have hnc74 := NB225_233.out
                      have hnb75 := NB233_245.out
                      have hnc75 := NB245_233.out
                      have hcz76_0 : wc.cell? ⟨gb233, 0, none⟩ = some (.int .i64 t226) := (blk_cell BK233.out 0).trans rfl
                      have hcz76_1 : wc.cell? ⟨gb233, 1, none⟩ = some (.int .i64 t227) := (blk_cell BK233.out 1).trans rfl
                      have hcz76_2 : wc.cell? ⟨gb233, 2, none⟩ = some (.int .i64 t228) := (blk_cell BK233.out 2).trans rfl
                      have hcz76_3 : wc.cell? ⟨gb233, 3, none⟩ = some (.slice Ao14 t236.length co14) := (blk_cell BK233.out 3).trans rfl
                      have hfz76_0 := blk_frozen BK233.out 0
                      have hfz76_1 := blk_frozen BK233.out 1
                      have hfz76_2 := blk_frozen BK233.out 2
                      have hfz76_3 := blk_frozen BK233.out 3
                      go_wp2_with (first | ((with_reducible refine gate_callee (f := 52) rfl ?_); refine goesL_ (some 62) rfl rfl Try.func52 (by kernel_rfl) rfl #[.agg #[.int .i64 t226, .int .i64 t227, .int .i64 t228, .slice Ao14 t236.length co14], .int .i64 1] rfl (by (try simp only [List.map_toArray, List.map_cons, List.map_nil]); first | done | rfl | (simp only [List.length_drop, List.length_take]; rfl)) ?_; (with_reducible refine (laws_heldSpan.calls kj35 t226 t227 t228 _ _ t236 1 t247 _ ?side1 ?side2 A63.out).mono ?_); (case side1 => repeat (first | exact (Kd.R_reads' HO_234003.out).2.2 | (with_reducible refine Kd.C_alloc ?_ _) | (with_reducible refine Kd.C_drewN ?_ _) | (with_reducible refine Kd.C_drew ?_))); (case side2 => exact (Kd.R_reads' HO_234003.out).2.1); rintro e w77 ⟨rfl, hb⟩; refine ⟨_, rfl, ?_⟩; have n0_ := Aside0.mk (Kd.R_below (by (with_reducible repeat (first | apply Kd.R_alloc | apply Kd.R_drewN | apply Kd.R_drew)); exact HO_226003.out) hb); have n1_ := Aside0.mk (Kd.R_below (by (with_reducible repeat (first | apply Kd.R_alloc | apply Kd.R_drewN | apply Kd.R_drew)); exact HO_234003.out) hb); have n2_ := Aside0.mk (Kd.R_below (by (with_reducible repeat (first | apply Kd.R_alloc | apply Kd.R_drewN | apply Kd.R_drew)); exact HO_246003.out) hb); have n3_ := Aside0.mk (blk_below (g := gb225) (o := .cells #[.int .i64 t218, .int .i64 t219, .int .i64 t220, .slice Ao9 t221.length co9] 64 (0, 0)) (by (with_reducible repeat (first | refine blk_drewN ?_ _ | refine blk_drew ?_ | refine blk_alloc ?_ _)); exact BK225.out) hb); have n4_ := Aside0.mk (blk_below (g := gb233) (o := .cells #[.int .i64 t226, .int .i64 t227, .int .i64 t228, .slice Ao14 t236.length co14] 64 (0, 0)) (by (with_reducible repeat (first | refine blk_drewN ?_ _ | refine blk_drew ?_ | refine blk_alloc ?_ _)); exact BK233.out) hb); have n5_ := Aside0.mk (blk_below (g := gb245) (o := .cells #[.int .i64 t238, .int .i64 t239, .int .i64 t240, .slice Ao47 t241.length co47] 64 (0, 0)) (by (with_reducible repeat (first | refine blk_drewN ?_ _ | refine blk_drew ?_ | refine blk_alloc ?_ _)); exact BK245.out) hb); have n6_ := Aside0.mk (below_step (by repeat (first | (with_reducible first | exact HB.out | apply below_alloc | apply pw_below_drewN | apply below_drew1 | refine below_set ?_ GE225.out | refine below_set ?_ GE233.out | refine below_set ?_ GE245.out) | exact HB.out)) hb); clear HO_226003; clear HO_234003; clear HO_246003; clear BK225; clear BK233; clear BK245; clear HB; have HO_226003 := n0_; have HO_234003 := n1_; have HO_246003 := n2_; have BK225 := n3_; have BK233 := n4_; have BK245 := n5_; have HB := n6_; clear n0_ n1_ n2_ n3_ n4_ n5_ n6_; (try clear hb); (try clear hb2); (try clear hk); (try clear hi)))
                      go_ret
                      exact ⟨by first | rfl | (simp [errW_none, errW_some] <;> rfl) | (simp [*, errW_none, errW_some] <;> rfl), by repeat (first | (with_reducible first | exact HB.out | apply below_alloc | apply pw_below_drewN | apply below_drew1 | refine below_set ?_ GE225.out | refine below_set ?_ GE233.out | refine below_set ?_ GE245.out) | exact HB.out)⟩
          · rw [if_neg c34] at H
            have c34b0 : (t237 == t235) = false := beq_eq_false_iff_ne.mpr c34
            have c34b1 : (t237 != t235) = true := bne_iff_ne.mpr c34
            obtain rfl := Option.some.inj H
            have hnb78 := NB233_225.out
            have hnc78 := NB225_233.out
            have hcz79_0 : wc.cell? ⟨gb233, 0, none⟩ = some (.int .i64 t226) := (blk_cell BK233.out 0).trans rfl
            have hcz79_1 : wc.cell? ⟨gb233, 1, none⟩ = some (.int .i64 t227) := (blk_cell BK233.out 1).trans rfl
            have hcz79_2 : wc.cell? ⟨gb233, 2, none⟩ = some (.int .i64 t228) := (blk_cell BK233.out 2).trans rfl
            have hcz79_3 : wc.cell? ⟨gb233, 3, none⟩ = some (.slice Ao14 t229.length co14) := (blk_cell BK233.out 3).trans rfl
            have hfz79_0 := blk_frozen BK233.out 0
            have hfz79_1 := blk_frozen BK233.out 1
            have hfz79_2 := blk_frozen BK233.out 2
            have hfz79_3 := blk_frozen BK233.out 3
            go_wp2_with (first | ((with_reducible refine gate_callee (f := 51) rfl ?_); refine goesL_ (some 36) rfl rfl Try.func51 (by kernel_rfl) rfl #[.agg #[.int .i64 t226, .int .i64 t227, .int .i64 t228, .slice Ao14 t229.length co14], .int .i64 1] rfl (by (try simp only [List.map_toArray, List.map_cons, List.map_nil]); first | done | rfl | (simp only [List.length_drop, List.length_take]; rfl)) ?_; (with_reducible refine (laws_markSpan.calls kj4 t226 t227 t228 (fun k_ => some k_ = (.slice Ao14 t229.length co14 : Value).ownBlock) (.slice Ao14 t229.length co14) t229 1 t235 t236 w _ ?side1 ?side2 A26.out).mono ?_); (case side1 => repeat (first | (with_reducible first | exact HB.out | apply below_alloc | apply pw_below_drewN | apply below_drew1 | refine below_set ?_ GE225.out | refine below_set ?_ GE233.out) | exact HB.out)); (case side2 => exact Kd.R_tight rfl HO_234003.out); rintro e w80 ⟨rfl, hy0, hb, hkp⟩; refine ⟨_, rfl, ?_⟩; have n0_ := Aside0.mk (Kd.R_mono (ok' := fun k_ => some k_ ≠ (.slice Ao14 t229.length co14 : Value).ownBlock) (Kd.R_keptB (HO_226003.out) hkp (fun k_ hk_ hs_ => (hk_) hs_)) (fun k_ hk_ => hk_.1)); have n1_ := Aside0.mk (Kd.R_reok rfl hy0 (fun k_ e_ => HO_234003.out.1 k_ e_)); have n2_ := Aside0.mk (blk_kept (by (with_reducible repeat (first | refine blk_drewN ?_ _ | refine blk_drew ?_ | refine blk_alloc ?_ _)); exact BK225.out) hkp (fun hs_ => (fun e_ => (Kd.R_ne HO_234003.out BK225.out (by decide)) e_) hs_)); have n3_ := Aside0.mk (blk_kept (by (with_reducible repeat (first | refine blk_drewN ?_ _ | refine blk_drew ?_ | refine blk_alloc ?_ _)); exact BK233.out) hkp (fun hs_ => (fun e_ => (Kd.R_ne HO_234003.out BK233.out (by decide)) e_) hs_)); have n4_ := Aside0.mk (hb); clear HO_226003; clear HO_234003; clear BK225; clear BK233; clear HB; have HO_226003 := n0_; have HO_234003 := n1_; have BK225 := n2_; have BK233 := n3_; have HB := n4_; clear n0_ n1_ n2_ n3_ n4_; (try clear hb); (try clear hkp); (try clear hy0); have hcz81_0 : w80.cell? ⟨gb233, 0, none⟩ = some (.int .i64 t226) := (blk_cell BK233.out 0).trans rfl; have hcz81_1 : w80.cell? ⟨gb233, 1, none⟩ = some (.int .i64 t227) := (blk_cell BK233.out 1).trans rfl; have hcz81_2 : w80.cell? ⟨gb233, 2, none⟩ = some (.int .i64 t228) := (blk_cell BK233.out 2).trans rfl; have hcz81_3 : w80.cell? ⟨gb233, 3, none⟩ = some (.slice Ao14 t229.length co14) := (blk_cell BK233.out 3).trans rfl; have hfz81_0 := blk_frozen BK233.out 0; have hfz81_1 := blk_frozen BK233.out 1; have hfz81_2 := blk_frozen BK233.out 2; have hfz81_3 := blk_frozen BK233.out 3) | ((with_reducible refine gate_callee (f := 52) rfl ?_); refine goesL_ (some 39) rfl rfl Try.func52 (by kernel_rfl) rfl #[.agg #[.int .i64 t226, .int .i64 t227, .int .i64 t228, .slice Ao14 t236.length co14], .int .i64 1] rfl (by (try simp only [List.map_toArray, List.map_cons, List.map_nil]); first | done | (rw [show t236.length = t229.length from (Kd.R_reads' HO_234003.out).1.symm] <;> rfl) | rfl | (simp only [List.length_drop, List.length_take]; rfl)) ?_; (with_reducible refine (laws_heldSpan.calls kj4 t226 t227 t228 _ _ t236 1 t237 _ ?side1 ?side2 A27.out).mono ?_); (case side1 => repeat (first | exact (Kd.R_reads' HO_234003.out).2.2 | (with_reducible refine Kd.C_alloc ?_ _) | (with_reducible refine Kd.C_drewN ?_ _) | (with_reducible refine Kd.C_drew ?_))); (case side2 => rw [show t236.length = t229.length from (Kd.R_reads' HO_234003.out).1.symm]; exact (Kd.R_reads' HO_234003.out).2.1); rintro e w82 ⟨rfl, hb⟩; refine ⟨_, rfl, ?_⟩; have n0_ := Aside0.mk (Kd.R_below (by (with_reducible repeat (first | apply Kd.R_alloc | apply Kd.R_drewN | apply Kd.R_drew)); exact HO_226003.out) hb); have n1_ := Aside0.mk (Kd.R_below (by (with_reducible repeat (first | apply Kd.R_alloc | apply Kd.R_drewN | apply Kd.R_drew)); exact HO_234003.out) hb); have n2_ := Aside0.mk (blk_below (g := gb225) (o := .cells #[.int .i64 t218, .int .i64 t219, .int .i64 t220, .slice Ao9 t221.length co9] 64 (0, 0)) (by (with_reducible repeat (first | refine blk_drewN ?_ _ | refine blk_drew ?_ | refine blk_alloc ?_ _)); exact BK225.out) hb); have n3_ := Aside0.mk (blk_below (g := gb233) (o := .cells #[.int .i64 t226, .int .i64 t227, .int .i64 t228, .slice Ao14 t229.length co14] 64 (0, 0)) (by (with_reducible repeat (first | refine blk_drewN ?_ _ | refine blk_drew ?_ | refine blk_alloc ?_ _)); exact BK233.out) hb); have n4_ := Aside0.mk (below_step (by repeat (first | (with_reducible first | exact HB.out | apply below_alloc | apply pw_below_drewN | apply below_drew1 | refine below_set ?_ GE225.out | refine below_set ?_ GE233.out) | exact HB.out)) hb); clear HO_226003; clear HO_234003; clear BK225; clear BK233; clear HB; have HO_226003 := n0_; have HO_234003 := n1_; have BK225 := n2_; have BK233 := n3_; have HB := n4_; clear n0_ n1_ n2_ n3_ n4_; (try clear hb); (try clear hb2); (try clear hk); (try clear hi)))
            go_ret
            exact ⟨by first | rfl | (simp [errW_none, errW_some] <;> rfl) | (simp [*, errW_none, errW_some] <;> rfl), by repeat (first | (with_reducible first | exact HB.out | apply below_alloc | apply pw_below_drewN | apply below_drew1 | refine below_set ?_ GE225.out | refine below_set ?_ GE233.out) | exact HB.out)⟩

/-- THE ONE PURE STATEMENT of laws_FnExactNewSpan: yours. -/
def laws_FnExactNewSpan.Pure : Prop := ∀ (a0 : Int) (a1 : Int), (Lit.int .i64 a0).wf = true → (Lit.int .i64 a1).wf = true → ∃ k, laws_FnExactNewSpan.f k a0 a1 = some true
theorem laws_FnExactNewSpan.walk (P : laws_FnExactNewSpan.Pure) (a0 : Int) (a1 : Int) (w : World) (w0 : (Lit.int .i64 a0).wf = true) (w1 : (Lit.int .i64 a1).wf = true) :
    Calls Try.prog 12 #[.int .i64 a0, .int .i64 a1] w fun e w' => e = .returned (.bool true) ∧ Below w.heap.size w w' := by
  obtain ⟨k, h⟩ := P a0 a1 w0 w1
  refine (laws_FnExactNewSpan.calls k a0 a1 true w h).mono ?_
  rintro e w' ⟨rfl, hd⟩
  exact ⟨rfl, hd⟩

end Go.Proofs.Ytjedkodimjijeaa.QFnExactNewSpan
