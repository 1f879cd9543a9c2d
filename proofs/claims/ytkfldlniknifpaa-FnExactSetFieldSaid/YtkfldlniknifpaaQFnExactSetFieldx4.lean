-- Written by a program of the session, a changed copy of the kit's print: not the kit's own print; Lean checks it.
import Derived.Test.YtkfldlniknifpaaQFnExactSetFieldx0
namespace Go.Proofs.Ytkfldlniknifpaa.QFnExactSetField
open Go.RowKit Go.Proofs.YtkfldlniknifpaaW.PrintWords Go.Proofs.YtkfldlniknifpaaW.PrintLast Go.Proofs.YtkfldlniknifpaaW.PrintMore
attribute [local go_sem] max2_int min2_int max_two min_two max_three min_three max_four min_four   -- for this text's walks alone
set_option linter.unusedVariables false
set_option linter.unusedSimpArgs false

open List renaming setIfInBounds_toArray → la_, set_cons_zero → lb_, set_cons_succ → lc_
open Go.Proofs.YtkfldlniknifpaaW.PrintWords.Kd renaming R_alloc → qa_, R_drewN → qn_, R_drew → qd_, R_lower → ql_, R_lt → qt_, R_new' → qe_, R_below → qb_
open Go.Proofs.YtkfldlniknifpaaW.PrintWords renaming blk_drewN → qu_, blk_drew → qv_, blk_alloc → qw_, blk_below → qs_, below_size → qz_, below_alloc → qc_, pw_below_drewN → qx_, below_drew1 → qf_, below_set → qg_, below_step → qh_
open Go.Proofs.YtkfldlniknifpaaW.PrintWords.Aside0 renaming mk → qm_
/-! ### spec_l5Own: function 70 -/
def spec_l5Own.l0 : Nat → List (List Int) → Int → Int → List (List Int) → List Bool → List Int → Option ((List (List Int)) × List Bool × List Int)
 | 0, _, _, _, _, _, _ => none
 | k + 1, x16, x17, x18, x176000, x176001, x176002 => if x18 < x17 then (if 0 ≤ x18 then (if x18 < (x16.length : Int) then ((some (([] : List Int) : List Int)).bind fun y177 => (if y177.length + (rd_L1 x16 x18).length < 17592186044416 then (if x176000.length < 5864062014805 then (spec_l5Own.l0 k x16 x17 (wrap64 (x18 + 1)) (x176000 ++ [(y177 ++ (rd_L1 x16 x18))]) x176001 x176002) else (none)) else (none))) else (none)) else (none)) else (some (x176000, x176001, x176002))
def spec_l5Own.f (k : Nat) (l0_0 : List (List Int)) (l0_1 : List Bool) (l0_2 : List Int) : Option ((List (List Int)) × List Bool × List Int) := (some (([] : List Bool) : List Bool)).bind fun y163 => (if y163.length + l0_1.length < 140737488355328 then ((some (([] : List Int) : List Int)).bind fun y169 => (if y169.length + l0_2.length < 17592186044416 then (spec_l5Own.l0 k l0_0 (l0_0.length : Int) 0 ([] : List (List Int)) (y163 ++ l0_1) (y169 ++ l0_2)) else (none))) else (none))
theorem spec_l5Own.mono_l : ∀ k, (∀ y0 y1 y2 y3 y4 y5, LeO (spec_l5Own.l0 k y0 y1 y2 y3 y4 y5) (spec_l5Own.l0 (k + 1) y0 y1 y2 y3 y4 y5))
 | 0 => fun _ _ _ _ _ _ r h => by simp [spec_l5Own.l0] at h
 | k + 1 => by
  have ih0 := spec_l5Own.mono_l k
  ·intro y0 y1 y2 y3 y4 y5
   unfold spec_l5Own.l0
   repeat' first
   | (with_reducible exact ih0 _ _ _ _ _ _)
   | (with_reducible exact LeO.refl _)
   | (with_reducible exact LeO.none _)
   | (with_reducible refine LeO.ite ?_ ?_)
   | (with_reducible refine LeO.bind ?_ (fun _ => ?_))
   | exact ih0 _ _ _ _ _ _
   | exact LeO.none _
   | refine LeO.ite ?_ ?_
   | refine LeO.bind ?_ (fun _ => ?_)
theorem spec_l5Own.mono : ∀ a0 a1 a2 k, LeO (spec_l5Own.f k a0 a1 a2) (spec_l5Own.f (k + 1) a0 a1 a2) := by
 intro a0 a1 a2 k
 have ih0 := spec_l5Own.mono_l k
 unfold spec_l5Own.f
 repeat' first
   | (with_reducible exact ih0 _ _ _ _ _ _)
   | (with_reducible exact LeO.refl _)
   | (with_reducible exact LeO.none _)
   | (with_reducible refine LeO.ite ?_ ?_)
   | (with_reducible refine LeO.bind ?_ (fun _ => ?_))
   | exact ih0 _ _ _ _ _ _
   | exact LeO.none _
   | refine LeO.ite ?_ ?_
   | refine LeO.bind ?_ (fun _ => ?_)
def spec_l5Own.T1 : Bool × List (List Nat × List Nat) := (true, [([], []), ([], []), ([1], [1]), ([0, 2], [0, 2]), ([], []), ([], []), ([5], [5]), ([4, 6, 3], [4, 6]), ([3, 7], [3, 7]), ([], []), ([9, 8, 7, 0, 1, 2, 3, 4, 5, 6, 7, 8, 9], [8, 9])])
def spec_l5Own.B1 : List Nat := [0, 0, 2, 7, 0, 0, 32, 127, 255, 0, 1023]
theorem spec_l5Own.tab1 : rtab .any (opsOf Try.f70 1) = spec_l5Own.T1 := by kernel_rfl
theorem spec_l5Own.bits1 : waitsOk spec_l5Own.T1.2 spec_l5Own.B1 = true := by kernel_rfl
def spec_l5Own.T5 : Bool × List (List Nat × List Nat) := (true, [([], []), ([0], [0]), ([], []), ([], []), ([2, 3], [2, 3]), ([4], [4]), ([1, 5, 4], [1, 5]), ([0, 1, 2, 3, 4, 5, 6], []), ([7, 6, 6, 0, 1, 2, 3, 4, 5, 6], [6, 7])])
def spec_l5Own.B5 : List Nat := [0, 1, 0, 0, 12, 28, 63, 127, 255]
theorem spec_l5Own.tab5 : rtab .any (opsOf Try.f70 5) = spec_l5Own.T5 := by kernel_rfl
theorem spec_l5Own.bits5 : waitsOk spec_l5Own.T5.2 spec_l5Own.B5 = true := by kernel_rfl
set_option maxHeartbeats 8000000 in
set_option maxRecDepth 100000 in
theorem spec_l5Own.calls (k : Nat) (A0_0 : Option Addr) (c0_0 : Nat) (l0_0 : List (List Int)) (A0_1 : Option Addr) (c0_1 : Nat) (l0_1 : List Bool) (A0_2 : Option Addr) (c0_2 : Nat) (l0_2 : List Int) (r1 : List (List Int)) (r2 : List Bool) (r3 : List Int) (w : World) (hr0_0 : Kd.C (Kd.slice 3 (Kd.int .i64)) w A0_0 l0_0.length l0_0) (hc0_0 : l0_0.length ≤ c0_0) (hr0_1 : Kd.C Kd.bool w A0_1 l0_1.length l0_1) (hc0_1 : l0_1.length ≤ c0_1) (hr0_2 : Kd.C (Kd.int .i64) w A0_2 l0_2.length l0_2) (hc0_2 : l0_2.length ≤ c0_2) (h : spec_l5Own.f k l0_0 l0_1 l0_2 = some (r1, r2, r3)) :
  Calls Try.prog 70 #[.agg #[.slice A0_0 l0_0.length c0_0, .slice A0_1 l0_1.length c0_1, .slice A0_2 l0_2.length c0_2]] w fun e w' => ∃ v0_ v1_ v2_ : Value, e = .returned (.agg #[v0_, v1_, v2_]) ∧ Kd.S (Kd.slice 3 (Kd.int .i64)) 24 w' w.heap.size (fun k_ => some k_ ≠ (v2_ : Value).ownBlock) v0_ r1 ∧ Kd.R Kd.bool 4 w' w.heap.size (fun _ => True) v1_ r2 ∧ Kd.R (Kd.int .i64) 3 w' w.heap.size (fun _ => True) v2_ r3 ∧ Below w.heap.size w w' := by
 have hu30 := Try.underlying30
 have HR0_0 := qm_ hr0_0
 have HC0_0 := qm_ hc0_0
 clear hr0_0 hc0_0
 have HR0_1 := qm_ hr0_1
 have HC0_1 := qm_ hc0_1
 clear hr0_1 hc0_1
 have HR0_2 := qm_ hr0_2
 have HC0_2 := qm_ hc0_2
 clear hr0_2 hc0_2
 have HB := qm_ (Below.refl w.heap.size w)
 have H : ((some (([] : List Bool) : List Bool)).bind fun y163 => (if y163.length + l0_1.length < 140737488355328 then ((some (([] : List Int) : List Int)).bind fun y169 => (if y169.length + l0_2.length < 17592186044416 then (spec_l5Own.l0 k l0_0 (l0_0.length : Int) 0 ([] : List (List Int)) (y163 ++ l0_1) (y169 ++ l0_2)) else (none))) else (none))) = some (r1, r2, r3) := h
 clear h
 obtain ⟨y163, hy163⟩ : ∃ y_ : List Bool, y_ = (([] : List Bool)) := ⟨_, rfl⟩
 replace H : (if y163.length + l0_1.length < 140737488355328 then ((some (([] : List Int) : List Int)).bind fun y169 => (if y169.length + l0_2.length < 17592186044416 then (spec_l5Own.l0 k l0_0 (l0_0.length : Int) 0 ([] : List (List Int)) (y163 ++ l0_1) (y169 ++ l0_2)) else (none))) else (none)) = some (r1, r2, r3) := by first | (rw [hy163]; with_reducible exact H) | (have H2_ := (Option.bind_some _ _).symm.trans H; rw [hy163]; with_reducible exact H2_) | (have H2_ := (Option.bind_some _ _).symm.trans H; with_reducible exact H2_) | with_reducible exact H | (rw [hy163]; exact H) | exact H
 have Ny163 := qm_ hy163
 clear hy163
 by_cases c2 : y163.length + l0_1.length < 140737488355328
 ·rw [if_pos c2] at H
  have LMc2 := qm_ c2
  clear c2
  obtain ⟨y166, hy166⟩ : ∃ y_ : List Bool, y_ = (y163 ++ l0_1) := ⟨_, rfl⟩
  replace H : ((some (([] : List Int) : List Int)).bind fun y169 => (if y169.length + l0_2.length < 17592186044416 then (spec_l5Own.l0 k l0_0 (l0_0.length : Int) 0 ([] : List (List Int)) y166 (y169 ++ l0_2)) else (none))) = some (r1, r2, r3) := by first | (rw [hy166]; with_reducible exact H) | (have H2_ := (Option.bind_some _ _).symm.trans H; rw [hy166]; with_reducible exact H2_) | (have H2_ := (Option.bind_some _ _).symm.trans H; with_reducible exact H2_) | with_reducible exact H | (rw [hy166]; exact H) | exact H
  have Ny166 := qm_ hy166
  clear hy166
  obtain ⟨y169, hy169⟩ : ∃ y_ : List Int, y_ = (([] : List Int)) := ⟨_, rfl⟩
  replace H : (if y169.length + l0_2.length < 17592186044416 then (spec_l5Own.l0 k l0_0 (l0_0.length : Int) 0 ([] : List (List Int)) y166 (y169 ++ l0_2)) else (none)) = some (r1, r2, r3) := by first | (rw [hy169]; with_reducible exact H) | (have H2_ := (Option.bind_some _ _).symm.trans H; rw [hy169]; with_reducible exact H2_) | (have H2_ := (Option.bind_some _ _).symm.trans H; with_reducible exact H2_) | with_reducible exact H | (rw [hy169]; exact H) | exact H
  have Ny169 := qm_ hy169
  clear hy169
  by_cases c3 : y169.length + l0_2.length < 17592186044416
  ·rw [if_pos c3] at H
   have LMc3 := qm_ c3
   clear c3
   obtain ⟨y172, hy172⟩ : ∃ y_ : List Int, y_ = (y169 ++ l0_2) := ⟨_, rfl⟩
   replace H : (spec_l5Own.l0 k l0_0 (l0_0.length : Int) 0 ([] : List (List Int)) y166 y172) = some (r1, r2, r3) := by first | (rw [hy172]; with_reducible exact H) | (have H2_ := (Option.bind_some _ _).symm.trans H; rw [hy172]; with_reducible exact H2_) | (have H2_ := (Option.bind_some _ _).symm.trans H; with_reducible exact H2_) | with_reducible exact H | (rw [hy172]; exact H) | exact H
   have Ny172 := qm_ hy172
   clear hy172
   have H' := qm_ H
   clear H
   go_enter Try.func70, Try.ntmps70
   try go_wp2_with (first | ((with_reducible refine gate_dst (N := 1) rfl ?_); refine box_event ?hg (N := 1) ?hd (cs := #[.slice A0_0 l0_0.length c0_0, .slice A0_1 l0_1.length c0_1, .slice A0_2 l0_2.length c0_2]) (t := 30) ?hr ?_; (case hd => rfl); (case hg => rfl); (case hr => first | (go_simp; done) | (go_simp; rfl)); intro gb161 hg w4 hbox hb; have n0_ := qm_ (qh_ (by repeat (first | (with_reducible first | exact HB.out | apply qc_ | apply qx_ | apply qf_) | exact HB.out)) hb); have n1_ := qm_ (hbox); have n2_ := qm_ ((by rw [hg]; exact (qz_ (by repeat (first | (with_reducible first | exact HB.out | apply qc_ | apply qx_ | apply qf_) | exact HB.out))) : w.heap.size ≤ gb161)); have n3_ := qm_ ((by rw [hg]; exact (qz_ (by repeat (first | (with_reducible first | exact HB.out | apply qc_ | apply qx_ | apply qf_) | exact HB.out))) : w.heap.size ≤ gb161)); clear HB; have HB := n0_; have BK161 := n1_; have GW161 := n2_; have GE161 := n3_; clear n0_ n1_ n2_ n3_; clear hb hbox hg) | ((with_reducible refine gate_dst (N := 2) rfl ?_); refine box_event ?hg (N := 2) ?hd (cs := #[.slice none 0 0, .slice none 0 0, .slice none 0 0]) (t := 30) ?hr ?_; (case hd => rfl); (case hg => rfl); (case hr => first | (go_simp; done) | (go_simp; rfl)); intro gb162 hg w5 hbox hb; have n0_ := qm_ (qs_ (g := gb161) (o := .cells #[.slice A0_0 l0_0.length c0_0, .slice A0_1 l0_1.length c0_1, .slice A0_2 l0_2.length c0_2] 30 (0, 0)) (by first | with_reducible exact BK161.out | with_reducible exact qu_ BK161.out _ | exact BK161.out | exact qw_ BK161.out _) hb); have n1_ := qm_ (qh_ (by repeat (first | (with_reducible first | exact HB.out | apply qc_ | apply qx_ | apply qf_ | refine qg_ ?_ GE161.out) | exact HB.out)) hb); have n2_ := qm_ (hbox); have n3_ := qm_ ((by rw [hg]; exact (qz_ (by repeat (first | (with_reducible first | exact HB.out | apply qc_ | apply qx_ | apply qf_ | refine qg_ ?_ GE161.out) | exact HB.out))) : w.heap.size ≤ gb162)); have n4_ := qm_ ((by rw [hg]; exact (qz_ (by repeat (first | (with_reducible first | exact HB.out | apply qc_ | apply qx_ | apply qf_ | refine qg_ ?_ GE161.out) | exact HB.out))) : w.heap.size ≤ gb162)); have n5_ := qm_ ((by rw [hg]; exact Nat.ne_of_lt (blk_lt (g := gb161) (o := .cells #[.slice A0_0 l0_0.length c0_0, .slice A0_1 l0_1.length c0_1, .slice A0_2 l0_2.length c0_2] 30 (0, 0)) (by first | with_reducible exact BK161.out | with_reducible exact qu_ BK161.out _ | exact BK161.out | exact qw_ BK161.out _)) : gb161 ≠ gb162)); have n6_ := qm_ ((by rw [hg]; exact Nat.ne_of_gt (blk_lt (g := gb161) (o := .cells #[.slice A0_0 l0_0.length c0_0, .slice A0_1 l0_1.length c0_1, .slice A0_2 l0_2.length c0_2] 30 (0, 0)) (by first | with_reducible exact BK161.out | with_reducible exact qu_ BK161.out _ | exact BK161.out | exact qw_ BK161.out _)) : gb162 ≠ gb161)); clear BK161; clear HB; have BK161 := n0_; have HB := n1_; have BK162 := n2_; have GW162 := n3_; have GE162 := n4_; have NB161_162 := n5_; have NB162_161 := n6_; clear n0_ n1_ n2_ n3_ n4_ n5_ n6_; clear hb hbox hg))
   have n0_ := qm_ (qv_ BK161.out)
   have n1_ := qm_ (qv_ BK162.out)
   have n2_ := qm_ (qf_ HB.out)
   clear BK161
   clear BK162
   clear HB
   have BK161 := n0_
   have BK162 := n1_
   have HB := n2_
   clear n0_ n1_ n2_
   refine start_ (n := 11) (S := fun w' => w'.cell? ⟨gb161, 0, none⟩ = some (.slice A0_0 l0_0.length c0_0) ∧ w'.cell? ⟨gb161, 1, none⟩ = some (.slice A0_1 l0_1.length c0_1) ∧ w'.cell? ⟨gb161, 2, none⟩ = some (.slice A0_2 l0_2.length c0_2)) (ds := []) #[false, false, false, false, false, false, false, false, false, false, false] (by kernel_rfl) rfl rfl ⟨(blk_cell BK161.out 0).trans rfl, (blk_cell BK161.out 1).trans rfl, (blk_cell BK161.out 2).trans rfl⟩ (fun hHeld => ?_); refine with_tabW spec_l5Own.tab1 spec_l5Own.bits1 (fun HT_ HW_ => ?_)
   generalize w5.drew = w6 at BK161 BK162 HB hHeld ⊢
   refine pure_ (i := 1) (N := some 7) (v := ?_) (a' := ?_) #[false, true, false, false, false, false, false, false, false, false, false] rfl rfl (any_of HT_.out (by kernel_rfl)) (fun _ _ _ h => h) (Or.inl ⟨by rfl, ?_⟩) ?_ ?_
   rotate_left
   ·intro w'
    go_simp
    with_reducible rfl
   rotate_left
   ·simp only [Act.put, la_, lb_, lc_, i64_w, i32_w]
    rfl
   refine pure_ (i := 5) (N := some 11) (v := ?_) (a' := ?_) #[false, true, false, false, false, true, false, false, false, false, false] rfl rfl (any_of HT_.out (by kernel_rfl)) (fun _ _ _ h => h) (Or.inl ⟨by rfl, ?_⟩) ?_ ?_
   rotate_left
   ·intro w'
    go_simp
    with_reducible rfl
   rotate_left
   ·simp only [Act.put, la_, lb_, lc_, i64_w, i32_w]
    rfl
   refine take_ (i := 2) (N := some 8) (v := ?_) (a' := ?_) #[false, true, true, false, false, true, false, false, false, false, false] rfl rfl (take_ofW HT_.out HW_.out (by kernel_rfl)) (fun _ _ _ h => h) (Or.inl ⟨by rfl, ?_⟩) hHeld ?_ ?_
   rotate_left
   ·rintro w' ⟨s0, s1, s2⟩
    go_simp
    with_reducible rfl
   rotate_left
   ·simp only [Act.put, la_, lb_, lc_, i64_w, i32_w]
    rfl
   refine take_ (i := 6) (N := some 12) (v := ?_) (a' := ?_) #[false, true, true, false, false, true, true, false, false, false, false] rfl rfl (take_ofW HT_.out HW_.out (by kernel_rfl)) (fun _ _ _ h => h) (Or.inl ⟨by rfl, ?_⟩) hHeld ?_ ?_
   rotate_left
   ·rintro w' ⟨s0, s1, s2⟩
    go_simp
    with_reducible rfl
   rotate_left
   ·simp only [Act.put, la_, lb_, lc_, i64_w, i32_w]
    rfl
   refine join_ (σ := Value × Value × Value × Value × Nat) 1 #[true, true, true, true, true, true, true, true, true, true, false] (fun s_ => [(6, s_.1), (9, s_.2.1), (10, s_.2.2.1), (13, s_.2.2.2.1), (3, .pointer (some ⟨s_.2.2.2.2, 0, none⟩)), (14, .agg #[.slice none 0 0, s_.2.1, s_.2.2.2.1])]) (fun s_ w' => (w'.cell? ⟨gb161, 0, none⟩ = some (.slice A0_0 l0_0.length c0_0) ∧ w'.cell? ⟨gb161, 1, none⟩ = some (.slice A0_1 l0_1.length c0_1) ∧ w'.cell? ⟨gb161, 2, none⟩ = some (.slice A0_2 l0_2.length c0_2)) ∧ (Kd.R Kd.bool 4 w' w.heap.size (fun _ => True) s_.2.1 y166) ∧ (Kd.R (Kd.int .i64) 3 w' w.heap.size (fun _ => True) s_.2.2.2.1 y172) ∧ (w'.heap[gb161]? = some (.cells #[.slice A0_0 l0_0.length c0_0, .slice A0_1 l0_1.length c0_1, .slice A0_2 l0_2.length c0_2] 30 (0, 0))) ∧ (w'.heap[gb162]? = some (.cells #[.slice none 0 0, .slice none 0 0, .slice none 0 0] 30 (0, 0))) ∧ (w'.heap[s_.2.2.2.2]? = some (.cells #[.slice none 0 0, .slice none 0 0, .slice none 0 0] 30 (0, 0))) ∧ (w.heap.size ≤ s_.2.2.2.2) ∧ (w.heap.size ≤ s_.2.2.2.2) ∧ (gb161 ≠ s_.2.2.2.2) ∧ (s_.2.2.2.2 ≠ gb161) ∧ (gb162 ≠ s_.2.2.2.2) ∧ (s_.2.2.2.2 ≠ gb162) ∧ (Below w.heap.size w w')) ?_ ?_
   rotate_left
   ·intro hJ0_3_4_7_9
    refine join_ (σ := Value × Value × Value × Value) 2 #[true, true, true, true, true, true, true, true, true, false, false] (fun s_ => [(6, s_.1), (9, s_.2.1), (10, s_.2.2.1), (13, s_.2.2.2), (14, .agg #[.slice none 0 0, s_.2.1, s_.2.2.2])]) (fun s_ w' => (w'.cell? ⟨gb161, 0, none⟩ = some (.slice A0_0 l0_0.length c0_0) ∧ w'.cell? ⟨gb161, 1, none⟩ = some (.slice A0_1 l0_1.length c0_1) ∧ w'.cell? ⟨gb161, 2, none⟩ = some (.slice A0_2 l0_2.length c0_2)) ∧ (Kd.R Kd.bool 4 w' w.heap.size (fun _ => True) s_.2.1 y166) ∧ (Kd.R (Kd.int .i64) 3 w' w.heap.size (fun _ => True) s_.2.2.2 y172) ∧ (w'.heap[gb161]? = some (.cells #[.slice A0_0 l0_0.length c0_0, .slice A0_1 l0_1.length c0_1, .slice A0_2 l0_2.length c0_2] 30 (0, 0))) ∧ (w'.heap[gb162]? = some (.cells #[.slice none 0 0, .slice none 0 0, .slice none 0 0] 30 (0, 0))) ∧ (Below w.heap.size w w')) ?_ ?_
    rotate_left
    ·intro hJ0_3_4_7
     refine join_ (σ := Value × Value × Value × Nat) 3 #[true, true, true, true, true, true, true, false, false, true, false] (fun s_ => [(6, s_.1), (9, s_.2.1), (10, s_.2.2.1), (3, .pointer (some ⟨s_.2.2.2, 0, none⟩))]) (fun s_ w' => (w'.cell? ⟨gb161, 0, none⟩ = some (.slice A0_0 l0_0.length c0_0) ∧ w'.cell? ⟨gb161, 1, none⟩ = some (.slice A0_1 l0_1.length c0_1) ∧ w'.cell? ⟨gb161, 2, none⟩ = some (.slice A0_2 l0_2.length c0_2)) ∧ (Kd.R Kd.bool 4 w' w.heap.size (fun _ => True) s_.2.1 y166) ∧ (Kd.R (Kd.int .i64) 3 w' w.heap.size (fun _ => True) s_.2.2.1 y169) ∧ (w'.heap[gb161]? = some (.cells #[.slice A0_0 l0_0.length c0_0, .slice A0_1 l0_1.length c0_1, .slice A0_2 l0_2.length c0_2] 30 (0, 0))) ∧ (w'.heap[gb162]? = some (.cells #[.slice none 0 0, .slice none 0 0, .slice none 0 0] 30 (0, 0))) ∧ (w'.heap[s_.2.2.2]? = some (.cells #[.slice none 0 0, .slice none 0 0, .slice none 0 0] 30 (0, 0))) ∧ (w.heap.size ≤ s_.2.2.2) ∧ (w.heap.size ≤ s_.2.2.2) ∧ (gb161 ≠ s_.2.2.2) ∧ (s_.2.2.2 ≠ gb161) ∧ (gb162 ≠ s_.2.2.2) ∧ (s_.2.2.2 ≠ gb162) ∧ (Below w.heap.size w w')) ?_ ?_
     rotate_left
     ·intro hJ0_3_4_9
      refine join_ (σ := Value × Value × Value) 4 #[true, true, true, true, true, true, true, false, false, false, false] (fun s_ => [(6, s_.1), (9, s_.2.1), (10, s_.2.2)]) (fun s_ w' => (w'.cell? ⟨gb161, 0, none⟩ = some (.slice A0_0 l0_0.length c0_0) ∧ w'.cell? ⟨gb161, 1, none⟩ = some (.slice A0_1 l0_1.length c0_1) ∧ w'.cell? ⟨gb161, 2, none⟩ = some (.slice A0_2 l0_2.length c0_2)) ∧ (Kd.R Kd.bool 4 w' w.heap.size (fun _ => True) s_.2.1 y166) ∧ (Kd.R (Kd.int .i64) 3 w' w.heap.size (fun _ => True) s_.2.2 y169) ∧ (w'.heap[gb161]? = some (.cells #[.slice A0_0 l0_0.length c0_0, .slice A0_1 l0_1.length c0_1, .slice A0_2 l0_2.length c0_2] 30 (0, 0))) ∧ (w'.heap[gb162]? = some (.cells #[.slice none 0 0, .slice none 0 0, .slice none 0 0] 30 (0, 0))) ∧ (Below w.heap.size w w')) ?_ ?_
      rotate_left
      ·intro hJ0_3_4
       refine join_ (σ := Value × Value × Nat) 4 #[true, true, true, true, false, true, true, false, false, true, false] (fun s_ => [(6, s_.1), (9, s_.2.1), (3, .pointer (some ⟨s_.2.2, 0, none⟩))]) (fun s_ w' => (w'.cell? ⟨gb161, 0, none⟩ = some (.slice A0_0 l0_0.length c0_0) ∧ w'.cell? ⟨gb161, 1, none⟩ = some (.slice A0_1 l0_1.length c0_1) ∧ w'.cell? ⟨gb161, 2, none⟩ = some (.slice A0_2 l0_2.length c0_2)) ∧ (Kd.R Kd.bool 4 w' w.heap.size (fun _ => True) s_.2.1 y166) ∧ (w'.heap[gb161]? = some (.cells #[.slice A0_0 l0_0.length c0_0, .slice A0_1 l0_1.length c0_1, .slice A0_2 l0_2.length c0_2] 30 (0, 0))) ∧ (w'.heap[gb162]? = some (.cells #[.slice none 0 0, .slice none 0 0, .slice none 0 0] 30 (0, 0))) ∧ (w'.heap[s_.2.2]? = some (.cells #[.slice none 0 0, .slice none 0 0, .slice none 0 0] 30 (0, 0))) ∧ (w.heap.size ≤ s_.2.2) ∧ (w.heap.size ≤ s_.2.2) ∧ (gb161 ≠ s_.2.2) ∧ (s_.2.2 ≠ gb161) ∧ (gb162 ≠ s_.2.2) ∧ (s_.2.2 ≠ gb162) ∧ (Below w.heap.size w w')) ?_ ?_
       rotate_left
       ·intro hJ0_3_9
        refine join_ (σ := Value × Value × Nat) 4 #[true, true, true, false, true, true, true, false, false, true, false] (fun s_ => [(6, s_.1), (10, s_.2.1), (3, .pointer (some ⟨s_.2.2, 0, none⟩))]) (fun s_ w' => (w'.cell? ⟨gb161, 0, none⟩ = some (.slice A0_0 l0_0.length c0_0) ∧ w'.cell? ⟨gb161, 1, none⟩ = some (.slice A0_1 l0_1.length c0_1) ∧ w'.cell? ⟨gb161, 2, none⟩ = some (.slice A0_2 l0_2.length c0_2)) ∧ (Kd.R Kd.bool 4 w' w.heap.size (fun _ => True) s_.1 y163) ∧ (Kd.R (Kd.int .i64) 3 w' w.heap.size (fun _ => True) s_.2.1 y169) ∧ (w'.heap[gb161]? = some (.cells #[.slice A0_0 l0_0.length c0_0, .slice A0_1 l0_1.length c0_1, .slice A0_2 l0_2.length c0_2] 30 (0, 0))) ∧ (w'.heap[gb162]? = some (.cells #[.slice none 0 0, .slice none 0 0, .slice none 0 0] 30 (0, 0))) ∧ (w'.heap[s_.2.2]? = some (.cells #[.slice none 0 0, .slice none 0 0, .slice none 0 0] 30 (0, 0))) ∧ (w.heap.size ≤ s_.2.2) ∧ (w.heap.size ≤ s_.2.2) ∧ (gb161 ≠ s_.2.2) ∧ (s_.2.2 ≠ gb161) ∧ (gb162 ≠ s_.2.2) ∧ (s_.2.2 ≠ gb162) ∧ (Below w.heap.size w w')) ?_ ?_
        rotate_left
        ·intro hJ0_4_9
         refine join_ (σ := Value × Value) 5 #[true, true, true, true, false, true, true, false, false, false, false] (fun s_ => [(6, s_.1), (9, s_.2)]) (fun s_ w' => (w'.cell? ⟨gb161, 0, none⟩ = some (.slice A0_0 l0_0.length c0_0) ∧ w'.cell? ⟨gb161, 1, none⟩ = some (.slice A0_1 l0_1.length c0_1) ∧ w'.cell? ⟨gb161, 2, none⟩ = some (.slice A0_2 l0_2.length c0_2)) ∧ (Kd.R Kd.bool 4 w' w.heap.size (fun _ => True) s_.2 y166) ∧ (w'.heap[gb161]? = some (.cells #[.slice A0_0 l0_0.length c0_0, .slice A0_1 l0_1.length c0_1, .slice A0_2 l0_2.length c0_2] 30 (0, 0))) ∧ (w'.heap[gb162]? = some (.cells #[.slice none 0 0, .slice none 0 0, .slice none 0 0] 30 (0, 0))) ∧ (Below w.heap.size w w')) ?_ ?_
         rotate_left
         ·intro hJ0_3
          refine join_ (σ := Value × Value) 5 #[true, true, true, false, true, true, true, false, false, false, false] (fun s_ => [(6, s_.1), (10, s_.2)]) (fun s_ w' => (w'.cell? ⟨gb161, 0, none⟩ = some (.slice A0_0 l0_0.length c0_0) ∧ w'.cell? ⟨gb161, 1, none⟩ = some (.slice A0_1 l0_1.length c0_1) ∧ w'.cell? ⟨gb161, 2, none⟩ = some (.slice A0_2 l0_2.length c0_2)) ∧ (Kd.R Kd.bool 4 w' w.heap.size (fun _ => True) s_.1 y163) ∧ (Kd.R (Kd.int .i64) 3 w' w.heap.size (fun _ => True) s_.2 y169) ∧ (w'.heap[gb161]? = some (.cells #[.slice A0_0 l0_0.length c0_0, .slice A0_1 l0_1.length c0_1, .slice A0_2 l0_2.length c0_2] 30 (0, 0))) ∧ (w'.heap[gb162]? = some (.cells #[.slice none 0 0, .slice none 0 0, .slice none 0 0] 30 (0, 0))) ∧ (Below w.heap.size w w')) ?_ ?_
          rotate_left
          ·intro hJ0_4
           refine join_ (σ := Value × Nat) 5 #[true, true, true, false, false, true, true, false, false, true, false] (fun s_ => [(6, s_.1), (3, .pointer (some ⟨s_.2, 0, none⟩))]) (fun s_ w' => (w'.cell? ⟨gb161, 0, none⟩ = some (.slice A0_0 l0_0.length c0_0) ∧ w'.cell? ⟨gb161, 1, none⟩ = some (.slice A0_1 l0_1.length c0_1) ∧ w'.cell? ⟨gb161, 2, none⟩ = some (.slice A0_2 l0_2.length c0_2)) ∧ (Kd.R Kd.bool 4 w' w.heap.size (fun _ => True) s_.1 y163) ∧ (w'.heap[gb161]? = some (.cells #[.slice A0_0 l0_0.length c0_0, .slice A0_1 l0_1.length c0_1, .slice A0_2 l0_2.length c0_2] 30 (0, 0))) ∧ (w'.heap[gb162]? = some (.cells #[.slice none 0 0, .slice none 0 0, .slice none 0 0] 30 (0, 0))) ∧ (w'.heap[s_.2]? = some (.cells #[.slice none 0 0, .slice none 0 0, .slice none 0 0] 30 (0, 0))) ∧ (w.heap.size ≤ s_.2) ∧ (w.heap.size ≤ s_.2) ∧ (gb161 ≠ s_.2) ∧ (s_.2 ≠ gb161) ∧ (gb162 ≠ s_.2) ∧ (s_.2 ≠ gb162) ∧ (Below w.heap.size w w')) ?_ ?_
           rotate_left
           ·intro hJ0_9
            refine join_ (σ := Value × Nat) 5 #[false, true, true, false, true, true, true, false, false, true, false] (fun s_ => [(10, s_.1), (3, .pointer (some ⟨s_.2, 0, none⟩))]) (fun s_ w' => (w'.cell? ⟨gb161, 0, none⟩ = some (.slice A0_0 l0_0.length c0_0) ∧ w'.cell? ⟨gb161, 1, none⟩ = some (.slice A0_1 l0_1.length c0_1) ∧ w'.cell? ⟨gb161, 2, none⟩ = some (.slice A0_2 l0_2.length c0_2)) ∧ (Kd.R (Kd.int .i64) 3 w' w.heap.size (fun _ => True) s_.1 y169) ∧ (w'.heap[gb161]? = some (.cells #[.slice A0_0 l0_0.length c0_0, .slice A0_1 l0_1.length c0_1, .slice A0_2 l0_2.length c0_2] 30 (0, 0))) ∧ (w'.heap[gb162]? = some (.cells #[.slice none 0 0, .slice none 0 0, .slice none 0 0] 30 (0, 0))) ∧ (w'.heap[s_.2]? = some (.cells #[.slice none 0 0, .slice none 0 0, .slice none 0 0] 30 (0, 0))) ∧ (w.heap.size ≤ s_.2) ∧ (w.heap.size ≤ s_.2) ∧ (gb161 ≠ s_.2) ∧ (s_.2 ≠ gb161) ∧ (gb162 ≠ s_.2) ∧ (s_.2 ≠ gb162) ∧ (Below w.heap.size w w')) ?_ ?_
            rotate_left
            ·intro hJ4_9
             refine join_ (σ := Value) 6 #[true, true, true, false, false, true, true, false, false, false, false] (fun s_ => [(6, s_)]) (fun s_ w' => (w'.cell? ⟨gb161, 0, none⟩ = some (.slice A0_0 l0_0.length c0_0) ∧ w'.cell? ⟨gb161, 1, none⟩ = some (.slice A0_1 l0_1.length c0_1) ∧ w'.cell? ⟨gb161, 2, none⟩ = some (.slice A0_2 l0_2.length c0_2)) ∧ (Kd.R Kd.bool 4 w' w.heap.size (fun _ => True) s_ y163) ∧ (w'.heap[gb161]? = some (.cells #[.slice A0_0 l0_0.length c0_0, .slice A0_1 l0_1.length c0_1, .slice A0_2 l0_2.length c0_2] 30 (0, 0))) ∧ (w'.heap[gb162]? = some (.cells #[.slice none 0 0, .slice none 0 0, .slice none 0 0] 30 (0, 0))) ∧ (Below w.heap.size w w')) ?_ ?_
             rotate_left
             ·intro hJ0
              refine join_ (σ := Value) 6 #[false, true, true, false, true, true, true, false, false, false, false] (fun s_ => [(10, s_)]) (fun s_ w' => (w'.cell? ⟨gb161, 0, none⟩ = some (.slice A0_0 l0_0.length c0_0) ∧ w'.cell? ⟨gb161, 1, none⟩ = some (.slice A0_1 l0_1.length c0_1) ∧ w'.cell? ⟨gb161, 2, none⟩ = some (.slice A0_2 l0_2.length c0_2)) ∧ (Kd.R (Kd.int .i64) 3 w' w.heap.size (fun _ => True) s_ y169) ∧ (w'.heap[gb161]? = some (.cells #[.slice A0_0 l0_0.length c0_0, .slice A0_1 l0_1.length c0_1, .slice A0_2 l0_2.length c0_2] 30 (0, 0))) ∧ (w'.heap[gb162]? = some (.cells #[.slice none 0 0, .slice none 0 0, .slice none 0 0] 30 (0, 0))) ∧ (Below w.heap.size w w')) ?_ ?_
              rotate_left
              ·intro hJ4
               refine join_ (σ := Nat) 6 #[false, true, true, false, false, true, true, false, false, true, false] (fun s_ => [(3, .pointer (some ⟨s_, 0, none⟩))]) (fun s_ w' => (w'.cell? ⟨gb161, 0, none⟩ = some (.slice A0_0 l0_0.length c0_0) ∧ w'.cell? ⟨gb161, 1, none⟩ = some (.slice A0_1 l0_1.length c0_1) ∧ w'.cell? ⟨gb161, 2, none⟩ = some (.slice A0_2 l0_2.length c0_2)) ∧ (w'.heap[gb161]? = some (.cells #[.slice A0_0 l0_0.length c0_0, .slice A0_1 l0_1.length c0_1, .slice A0_2 l0_2.length c0_2] 30 (0, 0))) ∧ (w'.heap[gb162]? = some (.cells #[.slice none 0 0, .slice none 0 0, .slice none 0 0] 30 (0, 0))) ∧ (w'.heap[s_]? = some (.cells #[.slice none 0 0, .slice none 0 0, .slice none 0 0] 30 (0, 0))) ∧ (w.heap.size ≤ s_) ∧ (w.heap.size ≤ s_) ∧ (gb161 ≠ s_) ∧ (s_ ≠ gb161) ∧ (gb162 ≠ s_) ∧ (s_ ≠ gb162) ∧ (Below w.heap.size w w')) ?_ ?_
               rotate_left
               ·intro hJ9
                refine three_ (i := 0) (j := 4) (k := 9) (Ni := some 6) (Nj := some 10) (Nk := some 3) #[true, true, true, false, false, true, true, false, false, false, false] #[false, true, true, false, true, true, true, false, false, false, false] #[false, true, true, false, false, true, true, false, false, true, false] rfl rfl rfl rfl rfl rfl (three_of HT_.out (by kernel_rfl)) (by decide) (by decide) (by decide) (fun K hK => ?_) (fun K hK => ?_) (fun K hK => ?_)
                ·skip
                 refine Kd.R_lit_step Kd.bool _ 4 ?hg (N := 6) ?hd (xs := ([] : List Bool)) (inner := []) (ok := fun _ => True) (okp := fun _ => True) ?hr ?hp (fun _ hk => hk) trivial (Below.refl _ _) (Nat.le_refl _) (by simp) ?_; (case hd => rfl); (case hg => rfl); (case hr => first | (go_simp; done) | (go_simp; rfl)); (case hp => exact (Reps.none _ _))
                 intro v164 w7 ho8 hb hg_ hnew_
                 clear hg_ hnew_
                 (first | rw [← Ny163.out] at ho8 | (simp only [Int.reduceToNat] at ho8; rw [← Ny163.out] at ho8))
                 have n0_ := qm_ (ql_ ho8 (qz_ (by repeat (first | (with_reducible first | exact HB.out | apply qc_ | apply qx_ | apply qf_ | refine qg_ ?_ GE161.out | refine qg_ ?_ GE162.out) | exact HB.out))))
                 have n1_ := qm_ (qs_ (g := gb161) (o := .cells #[.slice A0_0 l0_0.length c0_0, .slice A0_1 l0_1.length c0_1, .slice A0_2 l0_2.length c0_2] 30 (0, 0)) (by first | with_reducible exact BK161.out | with_reducible exact qu_ BK161.out _ | exact BK161.out | exact qw_ BK161.out _) hb)
                 have n2_ := qm_ (qs_ (g := gb162) (o := .cells #[.slice none 0 0, .slice none 0 0, .slice none 0 0] 30 (0, 0)) (by first | with_reducible exact BK162.out | with_reducible exact qu_ BK162.out _ | exact BK162.out | exact qw_ BK162.out _) hb)
                 have n3_ := qm_ (qh_ (by repeat (first | (with_reducible first | exact HB.out | apply qc_ | apply qx_ | apply qf_ | refine qg_ ?_ GE161.out | refine qg_ ?_ GE162.out) | exact HB.out)) hb)
                 clear BK161
                 clear BK162
                 clear HB
                 have HO165 := n0_
                 have BK161 := n1_
                 have BK162 := n2_
                 have HB := n3_
                 clear n0_ n1_ n2_ n3_
                 clear hb ho8
                 refine hK.out _ _ ⟨(blk_cell BK161.out 0).trans rfl, (blk_cell BK161.out 1).trans rfl, (blk_cell BK161.out 2).trans rfl⟩ (fun hHeld => ?_)
                 clear hK K
                 refine norm_ (a' := ?_) ?_ ?_
                 rotate_left
                 ·show Act.put _ (some 6) _ = _
                  simp only [Act.put, la_, lb_, lc_, i64_w, i32_w]
                  rfl
                 exact norm_ (by first | (simp only [putAll, Act.put, la_, lb_, lc_]; done) | (simp only [putAll, Act.put, la_, lb_, lc_]; rfl)) (hJ0 (v164) _ ⟨hHeld, (by (with_reducible repeat (first | apply qa_ | apply qn_ | apply qd_)); exact HO165.out), (by first | with_reducible exact BK161.out | with_reducible exact qu_ BK161.out _ | exact BK161.out | exact qw_ BK161.out _), (by first | with_reducible exact BK162.out | with_reducible exact qu_ BK162.out _ | exact BK162.out | exact qw_ BK162.out _), (by repeat (first | (with_reducible first | exact HB.out | apply qc_ | apply qx_ | apply qf_ | refine qg_ ?_ GE161.out | refine qg_ ?_ GE162.out) | exact HB.out))⟩)
                ·skip
                 refine Kd.R_lit_step (Kd.int .i64) _ 3 ?hg (N := 10) ?hd (xs := ([] : List Int)) (inner := []) (ok := fun _ => True) (okp := fun _ => True) ?hr ?hp (fun _ hk => hk) trivial (Below.refl _ _) (Nat.le_refl _) (by simp) ?_; (case hd => rfl); (case hg => rfl); (case hr => first | (go_simp; done) | (go_simp; rfl)); (case hp => exact (Reps.none _ _))
                 intro v170 w7 ho8 hb hg_ hnew_
                 clear hg_ hnew_
                 (first | rw [← Ny169.out] at ho8 | (simp only [Int.reduceToNat] at ho8; rw [← Ny169.out] at ho8))
                 have n0_ := qm_ (ql_ ho8 (qz_ (by repeat (first | (with_reducible first | exact HB.out | apply qc_ | apply qx_ | apply qf_ | refine qg_ ?_ GE161.out | refine qg_ ?_ GE162.out) | exact HB.out))))
                 have n1_ := qm_ (qs_ (g := gb161) (o := .cells #[.slice A0_0 l0_0.length c0_0, .slice A0_1 l0_1.length c0_1, .slice A0_2 l0_2.length c0_2] 30 (0, 0)) (by first | with_reducible exact BK161.out | with_reducible exact qu_ BK161.out _ | exact BK161.out | exact qw_ BK161.out _) hb)
                 have n2_ := qm_ (qs_ (g := gb162) (o := .cells #[.slice none 0 0, .slice none 0 0, .slice none 0 0] 30 (0, 0)) (by first | with_reducible exact BK162.out | with_reducible exact qu_ BK162.out _ | exact BK162.out | exact qw_ BK162.out _) hb)
                 have n3_ := qm_ (qh_ (by repeat (first | (with_reducible first | exact HB.out | apply qc_ | apply qx_ | apply qf_ | refine qg_ ?_ GE161.out | refine qg_ ?_ GE162.out) | exact HB.out)) hb)
                 clear BK161
                 clear BK162
                 clear HB
                 have HO171 := n0_
                 have BK161 := n1_
                 have BK162 := n2_
                 have HB := n3_
                 clear n0_ n1_ n2_ n3_
                 clear hb ho8
                 refine hK.out _ _ ⟨(blk_cell BK161.out 0).trans rfl, (blk_cell BK161.out 1).trans rfl, (blk_cell BK161.out 2).trans rfl⟩ (fun hHeld => ?_)
                 clear hK K
                 refine norm_ (a' := ?_) ?_ ?_
                 rotate_left
                 ·show Act.put _ (some 10) _ = _
                  simp only [Act.put, la_, lb_, lc_, i64_w, i32_w]
                  rfl
                 exact norm_ (by first | (simp only [putAll, Act.put, la_, lb_, lc_]; done) | (simp only [putAll, Act.put, la_, lb_, lc_]; rfl)) (hJ4 (v170) _ ⟨hHeld, (by (with_reducible repeat (first | apply qa_ | apply qn_ | apply qd_)); exact HO171.out), (by first | with_reducible exact BK161.out | with_reducible exact qu_ BK161.out _ | exact BK161.out | exact qw_ BK161.out _), (by first | with_reducible exact BK162.out | with_reducible exact qu_ BK162.out _ | exact BK162.out | exact qw_ BK162.out _), (by repeat (first | (with_reducible first | exact HB.out | apply qc_ | apply qx_ | apply qf_ | refine qg_ ?_ GE161.out | refine qg_ ?_ GE162.out) | exact HB.out))⟩)
                ·skip
                 refine box_step ?hg (N := 3) ?hd (cs := #[.slice none 0 0, .slice none 0 0, .slice none 0 0]) (t := 30) ?hr ?_; (case hd => rfl); (case hg => rfl); (case hr => first | (go_simp; done) | (go_simp; rfl))
                 intro gb175 hg w7 hbox hb
                 have n0_ := qm_ (qs_ (g := gb161) (o := .cells #[.slice A0_0 l0_0.length c0_0, .slice A0_1 l0_1.length c0_1, .slice A0_2 l0_2.length c0_2] 30 (0, 0)) (by first | with_reducible exact BK161.out | with_reducible exact qu_ BK161.out _ | exact BK161.out | exact qw_ BK161.out _) hb)
                 have n1_ := qm_ (qs_ (g := gb162) (o := .cells #[.slice none 0 0, .slice none 0 0, .slice none 0 0] 30 (0, 0)) (by first | with_reducible exact BK162.out | with_reducible exact qu_ BK162.out _ | exact BK162.out | exact qw_ BK162.out _) hb)
                 have n2_ := qm_ (qh_ (by repeat (first | (with_reducible first | exact HB.out | apply qc_ | apply qx_ | apply qf_ | refine qg_ ?_ GE161.out | refine qg_ ?_ GE162.out) | exact HB.out)) hb)
                 have n3_ := qm_ (hbox)
                 have n4_ := qm_ ((by rw [hg]; exact (qz_ (by repeat (first | (with_reducible first | exact HB.out | apply qc_ | apply qx_ | apply qf_ | refine qg_ ?_ GE161.out | refine qg_ ?_ GE162.out) | exact HB.out))) : w.heap.size ≤ gb175))
                 have n5_ := qm_ ((by rw [hg]; exact (qz_ (by repeat (first | (with_reducible first | exact HB.out | apply qc_ | apply qx_ | apply qf_ | refine qg_ ?_ GE161.out | refine qg_ ?_ GE162.out) | exact HB.out))) : w.heap.size ≤ gb175))
                 have n6_ := qm_ ((by rw [hg]; exact Nat.ne_of_lt (blk_lt (g := gb161) (o := .cells #[.slice A0_0 l0_0.length c0_0, .slice A0_1 l0_1.length c0_1, .slice A0_2 l0_2.length c0_2] 30 (0, 0)) (by first | with_reducible exact BK161.out | with_reducible exact qu_ BK161.out _ | exact BK161.out | exact qw_ BK161.out _)) : gb161 ≠ gb175))
                 have n7_ := qm_ ((by rw [hg]; exact Nat.ne_of_gt (blk_lt (g := gb161) (o := .cells #[.slice A0_0 l0_0.length c0_0, .slice A0_1 l0_1.length c0_1, .slice A0_2 l0_2.length c0_2] 30 (0, 0)) (by first | with_reducible exact BK161.out | with_reducible exact qu_ BK161.out _ | exact BK161.out | exact qw_ BK161.out _)) : gb175 ≠ gb161))
                 have n8_ := qm_ ((by rw [hg]; exact Nat.ne_of_lt (blk_lt (g := gb162) (o := .cells #[.slice none 0 0, .slice none 0 0, .slice none 0 0] 30 (0, 0)) (by first | with_reducible exact BK162.out | with_reducible exact qu_ BK162.out _ | exact BK162.out | exact qw_ BK162.out _)) : gb162 ≠ gb175))
                 have n9_ := qm_ ((by rw [hg]; exact Nat.ne_of_gt (blk_lt (g := gb162) (o := .cells #[.slice none 0 0, .slice none 0 0, .slice none 0 0] 30 (0, 0)) (by first | with_reducible exact BK162.out | with_reducible exact qu_ BK162.out _ | exact BK162.out | exact qw_ BK162.out _)) : gb175 ≠ gb162))
                 clear BK161
                 clear BK162
                 clear HB
                 have BK161 := n0_
                 have BK162 := n1_
                 have HB := n2_
                 have BK175 := n3_
                 have GW175 := n4_
                 have GE175 := n5_
                 have NB161_175 := n6_
                 have NB175_161 := n7_
                 have NB162_175 := n8_
                 have NB175_162 := n9_
                 clear n0_ n1_ n2_ n3_ n4_ n5_ n6_ n7_ n8_ n9_
                 clear hb hbox hg
                 refine hK.out _ _ ⟨(blk_cell BK161.out 0).trans rfl, (blk_cell BK161.out 1).trans rfl, (blk_cell BK161.out 2).trans rfl⟩ (fun hHeld => ?_)
                 clear hK K
                 refine norm_ (a' := ?_) ?_ ?_
                 rotate_left
                 ·show Act.put _ (some 3) _ = _
                  simp only [Act.put, la_, lb_, lc_, i64_w, i32_w]
                  rfl
                 exact norm_ (by first | (simp only [putAll, Act.put, la_, lb_, lc_]; done) | (simp only [putAll, Act.put, la_, lb_, lc_]; rfl)) (hJ9 (gb175) _ ⟨hHeld, (by first | with_reducible exact BK161.out | with_reducible exact qu_ BK161.out _ | exact BK161.out | exact qw_ BK161.out _), (by first | with_reducible exact BK162.out | with_reducible exact qu_ BK162.out _ | exact BK162.out | exact qw_ BK162.out _), (by first | with_reducible exact BK175.out | with_reducible exact qu_ BK175.out _ | exact BK175.out | exact qw_ BK175.out _), GW175.out, GE175.out, NB161_175.out, NB175_161.out, NB162_175.out, NB175_162.out, (by repeat (first | (with_reducible first | exact HB.out | apply qc_ | apply qx_ | apply qf_ | refine qg_ ?_ GE161.out | refine qg_ ?_ GE162.out | refine qg_ ?_ GE175.out) | exact HB.out))⟩)
               ·skip
                rintro gb175 w8 ⟨hS_, h0_, h1_, h2_, h3_, h4_, h5_, h6_, h7_, h8_, h9_⟩
                have n0_ : Aside0 (w8.heap[gb161]? = some (.cells #[.slice A0_0 l0_0.length c0_0, .slice A0_1 l0_1.length c0_1, .slice A0_2 l0_2.length c0_2] 30 (0, 0))) := ⟨h0_⟩
                have n1_ : Aside0 (w8.heap[gb162]? = some (.cells #[.slice none 0 0, .slice none 0 0, .slice none 0 0] 30 (0, 0))) := ⟨h1_⟩
                have n2_ : Aside0 (w8.heap[gb175]? = some (.cells #[.slice none 0 0, .slice none 0 0, .slice none 0 0] 30 (0, 0))) := ⟨h2_⟩
                have n3_ : Aside0 (w.heap.size ≤ gb175) := ⟨h3_⟩
                have n4_ : Aside0 (w.heap.size ≤ gb175) := ⟨h4_⟩
                have n5_ : Aside0 (gb161 ≠ gb175) := ⟨h5_⟩
                have n6_ : Aside0 (gb175 ≠ gb161) := ⟨h6_⟩
                have n7_ : Aside0 (gb162 ≠ gb175) := ⟨h7_⟩
                have n8_ : Aside0 (gb175 ≠ gb162) := ⟨h8_⟩
                have n9_ : Aside0 (Below w.heap.size w w8) := ⟨h9_⟩
                clear BK161
                clear BK162
                clear HB
                clear h0_ h1_ h2_ h3_ h4_ h5_ h6_ h7_ h8_ h9_
                have BK161 := n0_
                have BK162 := n1_
                have BK175 := n2_
                have GW175 := n3_
                have GE175 := n4_
                have NB161_175 := n5_
                have NB175_161 := n6_
                have NB162_175 := n7_
                have NB175_162 := n8_
                have HB := n9_
                clear n0_ n1_ n2_ n3_ n4_ n5_ n6_ n7_ n8_ n9_
                have hHeld : w8.cell? ⟨gb161, 0, none⟩ = some (.slice A0_0 l0_0.length c0_0) ∧ w8.cell? ⟨gb161, 1, none⟩ = some (.slice A0_1 l0_1.length c0_1) ∧ w8.cell? ⟨gb161, 2, none⟩ = some (.slice A0_2 l0_2.length c0_2) := hS_
                refine norm_ (a' := ?_) ?_ ?_
                rotate_left
                ·simp only [putAll, Act.put, la_, lb_, lc_]
                 rfl
                refine two_ (i := 0) (j := 4) (Ni := some 6) (Nj := some 10) #[true, true, true, false, false, true, true, false, false, true, false] #[false, true, true, false, true, true, true, false, false, true, false] rfl rfl rfl rfl (two_of HT_.out (by kernel_rfl)) (by decide) (by decide) (fun K hK => ?_) (fun K hK => ?_)
                ·skip
                 refine Kd.R_lit_step Kd.bool _ 4 ?hg (N := 6) ?hd (xs := ([] : List Bool)) (inner := []) (ok := fun _ => True) (okp := fun _ => True) ?hr ?hp (fun _ hk => hk) trivial (Below.refl _ _) (Nat.le_refl _) (by simp) ?_; (case hd => rfl); (case hg => rfl); (case hr => first | (go_simp; done) | (go_simp; rfl)); (case hp => exact (Reps.none _ _))
                 intro v164 w9 ho10 hb hg_ hnew_
                 clear hg_ hnew_
                 (first | rw [← Ny163.out] at ho10 | (simp only [Int.reduceToNat] at ho10; rw [← Ny163.out] at ho10))
                 have n0_ := qm_ (ql_ ho10 (qz_ (by repeat (first | (with_reducible first | exact HB.out | apply qc_ | apply qx_ | apply qf_ | refine qg_ ?_ GE161.out | refine qg_ ?_ GE162.out | refine qg_ ?_ GE175.out) | exact HB.out))))
                 have n1_ := qm_ (qs_ (g := gb161) (o := .cells #[.slice A0_0 l0_0.length c0_0, .slice A0_1 l0_1.length c0_1, .slice A0_2 l0_2.length c0_2] 30 (0, 0)) (by first | with_reducible exact BK161.out | with_reducible exact qu_ BK161.out _ | exact BK161.out | exact qw_ BK161.out _) hb)
                 have n2_ := qm_ (qs_ (g := gb162) (o := .cells #[.slice none 0 0, .slice none 0 0, .slice none 0 0] 30 (0, 0)) (by first | with_reducible exact BK162.out | with_reducible exact qu_ BK162.out _ | exact BK162.out | exact qw_ BK162.out _) hb)
                 have n3_ := qm_ (qs_ (g := gb175) (o := .cells #[.slice none 0 0, .slice none 0 0, .slice none 0 0] 30 (0, 0)) (by first | with_reducible exact BK175.out | with_reducible exact qu_ BK175.out _ | exact BK175.out | exact qw_ BK175.out _) hb)
                 have n4_ := qm_ (qh_ (by repeat (first | (with_reducible first | exact HB.out | apply qc_ | apply qx_ | apply qf_ | refine qg_ ?_ GE161.out | refine qg_ ?_ GE162.out | refine qg_ ?_ GE175.out) | exact HB.out)) hb)
                 clear BK161
                 clear BK162
                 clear BK175
                 clear HB
                 have HO165 := n0_
                 have BK161 := n1_
                 have BK162 := n2_
                 have BK175 := n3_
                 have HB := n4_
                 clear n0_ n1_ n2_ n3_ n4_
                 clear hb ho10
                 refine hK.out _ _ ⟨(blk_cell BK161.out 0).trans rfl, (blk_cell BK161.out 1).trans rfl, (blk_cell BK161.out 2).trans rfl⟩ (fun hHeld => ?_)
                 clear hK K
                 refine norm_ (a' := ?_) ?_ ?_
                 rotate_left
                 ·show Act.put _ (some 6) _ = _
                  simp only [Act.put, la_, lb_, lc_, i64_w, i32_w]
                  rfl
                 exact norm_ (by first | (simp only [putAll, Act.put, la_, lb_, lc_]; done) | (simp only [putAll, Act.put, la_, lb_, lc_]; rfl)) (hJ0_9 (v164, gb175) _ ⟨hHeld, (by (with_reducible repeat (first | apply qa_ | apply qn_ | apply qd_)); exact HO165.out), (by first | with_reducible exact BK161.out | with_reducible exact qu_ BK161.out _ | exact BK161.out | exact qw_ BK161.out _), (by first | with_reducible exact BK162.out | with_reducible exact qu_ BK162.out _ | exact BK162.out | exact qw_ BK162.out _), (by first | with_reducible exact BK175.out | with_reducible exact qu_ BK175.out _ | exact BK175.out | exact qw_ BK175.out _), GW175.out, GE175.out, NB161_175.out, NB175_161.out, NB162_175.out, NB175_162.out, (by repeat (first | (with_reducible first | exact HB.out | apply qc_ | apply qx_ | apply qf_ | refine qg_ ?_ GE161.out | refine qg_ ?_ GE162.out | refine qg_ ?_ GE175.out) | exact HB.out))⟩)
                ·skip
                 refine Kd.R_lit_step (Kd.int .i64) _ 3 ?hg (N := 10) ?hd (xs := ([] : List Int)) (inner := []) (ok := fun _ => True) (okp := fun _ => True) ?hr ?hp (fun _ hk => hk) trivial (Below.refl _ _) (Nat.le_refl _) (by simp) ?_; (case hd => rfl); (case hg => rfl); (case hr => first | (go_simp; done) | (go_simp; rfl)); (case hp => exact (Reps.none _ _))
                 intro v170 w9 ho10 hb hg_ hnew_
                 clear hg_ hnew_
                 (first | rw [← Ny169.out] at ho10 | (simp only [Int.reduceToNat] at ho10; rw [← Ny169.out] at ho10))
                 have n0_ := qm_ (ql_ ho10 (qz_ (by repeat (first | (with_reducible first | exact HB.out | apply qc_ | apply qx_ | apply qf_ | refine qg_ ?_ GE161.out | refine qg_ ?_ GE162.out | refine qg_ ?_ GE175.out) | exact HB.out))))
                 have n1_ := qm_ (qs_ (g := gb161) (o := .cells #[.slice A0_0 l0_0.length c0_0, .slice A0_1 l0_1.length c0_1, .slice A0_2 l0_2.length c0_2] 30 (0, 0)) (by first | with_reducible exact BK161.out | with_reducible exact qu_ BK161.out _ | exact BK161.out | exact qw_ BK161.out _) hb)
                 have n2_ := qm_ (qs_ (g := gb162) (o := .cells #[.slice none 0 0, .slice none 0 0, .slice none 0 0] 30 (0, 0)) (by first | with_reducible exact BK162.out | with_reducible exact qu_ BK162.out _ | exact BK162.out | exact qw_ BK162.out _) hb)
                 have n3_ := qm_ (qs_ (g := gb175) (o := .cells #[.slice none 0 0, .slice none 0 0, .slice none 0 0] 30 (0, 0)) (by first | with_reducible exact BK175.out | with_reducible exact qu_ BK175.out _ | exact BK175.out | exact qw_ BK175.out _) hb)
                 have n4_ := qm_ (qh_ (by repeat (first | (with_reducible first | exact HB.out | apply qc_ | apply qx_ | apply qf_ | refine qg_ ?_ GE161.out | refine qg_ ?_ GE162.out | refine qg_ ?_ GE175.out) | exact HB.out)) hb)
                 clear BK161
                 clear BK162
                 clear BK175
                 clear HB
                 have HO171 := n0_
                 have BK161 := n1_
                 have BK162 := n2_
                 have BK175 := n3_
                 have HB := n4_
                 clear n0_ n1_ n2_ n3_ n4_
                 clear hb ho10
                 refine hK.out _ _ ⟨(blk_cell BK161.out 0).trans rfl, (blk_cell BK161.out 1).trans rfl, (blk_cell BK161.out 2).trans rfl⟩ (fun hHeld => ?_)
                 clear hK K
                 refine norm_ (a' := ?_) ?_ ?_
                 rotate_left
                 ·show Act.put _ (some 10) _ = _
                  simp only [Act.put, la_, lb_, lc_, i64_w, i32_w]
                  rfl
                 exact norm_ (by first | (simp only [putAll, Act.put, la_, lb_, lc_]; done) | (simp only [putAll, Act.put, la_, lb_, lc_]; rfl)) (hJ4_9 (v170, gb175) _ ⟨hHeld, (by (with_reducible repeat (first | apply qa_ | apply qn_ | apply qd_)); exact HO171.out), (by first | with_reducible exact BK161.out | with_reducible exact qu_ BK161.out _ | exact BK161.out | exact qw_ BK161.out _), (by first | with_reducible exact BK162.out | with_reducible exact qu_ BK162.out _ | exact BK162.out | exact qw_ BK162.out _), (by first | with_reducible exact BK175.out | with_reducible exact qu_ BK175.out _ | exact BK175.out | exact qw_ BK175.out _), GW175.out, GE175.out, NB161_175.out, NB175_161.out, NB162_175.out, NB175_162.out, (by repeat (first | (with_reducible first | exact HB.out | apply qc_ | apply qx_ | apply qf_ | refine qg_ ?_ GE161.out | refine qg_ ?_ GE162.out | refine qg_ ?_ GE175.out) | exact HB.out))⟩)
              ·skip
               rintro v170 w9 ⟨hS_, h0_, h1_, h2_, h3_⟩
               have n0_ : Aside0 (Kd.R (Kd.int .i64) 3 w9 w.heap.size (fun _ => True) v170 y169) := ⟨h0_⟩
               have n1_ : Aside0 (w9.heap[gb161]? = some (.cells #[.slice A0_0 l0_0.length c0_0, .slice A0_1 l0_1.length c0_1, .slice A0_2 l0_2.length c0_2] 30 (0, 0))) := ⟨h1_⟩
               have n2_ : Aside0 (w9.heap[gb162]? = some (.cells #[.slice none 0 0, .slice none 0 0, .slice none 0 0] 30 (0, 0))) := ⟨h2_⟩
               have n3_ : Aside0 (Below w.heap.size w w9) := ⟨h3_⟩
               clear BK161
               clear BK162
               clear HB
               clear h0_ h1_ h2_ h3_
               have HO171 := n0_
               have BK161 := n1_
               have BK162 := n2_
               have HB := n3_
               clear n0_ n1_ n2_ n3_
               have hHeld : w9.cell? ⟨gb161, 0, none⟩ = some (.slice A0_0 l0_0.length c0_0) ∧ w9.cell? ⟨gb161, 1, none⟩ = some (.slice A0_1 l0_1.length c0_1) ∧ w9.cell? ⟨gb161, 2, none⟩ = some (.slice A0_2 l0_2.length c0_2) := hS_
               refine norm_ (a' := ?_) ?_ ?_
               rotate_left
               ·simp only [putAll, Act.put, la_, lb_, lc_]
                rfl
               refine two_ (i := 0) (j := 9) (Ni := some 6) (Nj := some 3) #[true, true, true, false, true, true, true, false, false, false, false] #[false, true, true, false, true, true, true, false, false, true, false] rfl rfl rfl rfl (two_of HT_.out (by kernel_rfl)) (by decide) (by decide) (fun K hK => ?_) (fun K hK => ?_)
               ·skip
                refine Kd.R_lit_step Kd.bool _ 4 ?hg (N := 6) ?hd (xs := ([] : List Bool)) (inner := []) (ok := fun _ => True) (okp := fun _ => True) ?hr ?hp (fun _ hk => hk) trivial (Below.refl _ _) (Nat.le_refl _) (by simp) ?_; (case hd => rfl); (case hg => rfl); (case hr => first | (go_simp; done) | (go_simp; rfl)); (case hp => exact (Reps.none _ _))
                intro v164 w10 ho11 hb hg_ hnew_
                clear hg_ hnew_
                (first | rw [← Ny163.out] at ho11 | (simp only [Int.reduceToNat] at ho11; rw [← Ny163.out] at ho11))
                have n0_ := qm_ (qb_ (by (with_reducible repeat (first | apply qa_ | apply qn_ | apply qd_)); exact HO171.out) hb)
                have n1_ := qm_ (ql_ ho11 (qz_ (by repeat (first | (with_reducible first | exact HB.out | apply qc_ | apply qx_ | apply qf_ | refine qg_ ?_ GE161.out | refine qg_ ?_ GE162.out) | exact HB.out))))
                have n2_ := qm_ (qs_ (g := gb161) (o := .cells #[.slice A0_0 l0_0.length c0_0, .slice A0_1 l0_1.length c0_1, .slice A0_2 l0_2.length c0_2] 30 (0, 0)) (by first | with_reducible exact BK161.out | with_reducible exact qu_ BK161.out _ | exact BK161.out | exact qw_ BK161.out _) hb)
                have n3_ := qm_ (qs_ (g := gb162) (o := .cells #[.slice none 0 0, .slice none 0 0, .slice none 0 0] 30 (0, 0)) (by first | with_reducible exact BK162.out | with_reducible exact qu_ BK162.out _ | exact BK162.out | exact qw_ BK162.out _) hb)
                have n4_ := qm_ (qh_ (by repeat (first | (with_reducible first | exact HB.out | apply qc_ | apply qx_ | apply qf_ | refine qg_ ?_ GE161.out | refine qg_ ?_ GE162.out) | exact HB.out)) hb)
                clear HO171
                clear BK161
                clear BK162
                clear HB
                have HO171 := n0_
                have HO165 := n1_
                have BK161 := n2_
                have BK162 := n3_
                have HB := n4_
                clear n0_ n1_ n2_ n3_ n4_
                clear hb ho11
                refine hK.out _ _ ⟨(blk_cell BK161.out 0).trans rfl, (blk_cell BK161.out 1).trans rfl, (blk_cell BK161.out 2).trans rfl⟩ (fun hHeld => ?_)
                clear hK K
                refine norm_ (a' := ?_) ?_ ?_
                rotate_left
                ·show Act.put _ (some 6) _ = _
                 simp only [Act.put, la_, lb_, lc_, i64_w, i32_w]
                 rfl
                exact norm_ (by first | (simp only [putAll, Act.put, la_, lb_, lc_]; done) | (simp only [putAll, Act.put, la_, lb_, lc_]; rfl)) (hJ0_4 (v164, v170) _ ⟨hHeld, (by (with_reducible repeat (first | apply qa_ | apply qn_ | apply qd_)); exact HO165.out), (by (with_reducible repeat (first | apply qa_ | apply qn_ | apply qd_)); exact HO171.out), (by first | with_reducible exact BK161.out | with_reducible exact qu_ BK161.out _ | exact BK161.out | exact qw_ BK161.out _), (by first | with_reducible exact BK162.out | with_reducible exact qu_ BK162.out _ | exact BK162.out | exact qw_ BK162.out _), (by repeat (first | (with_reducible first | exact HB.out | apply qc_ | apply qx_ | apply qf_ | refine qg_ ?_ GE161.out | refine qg_ ?_ GE162.out) | exact HB.out))⟩)
               ·skip
                refine box_step ?hg (N := 3) ?hd (cs := #[.slice none 0 0, .slice none 0 0, .slice none 0 0]) (t := 30) ?hr ?_; (case hd => rfl); (case hg => rfl); (case hr => first | (go_simp; done) | (go_simp; rfl))
                intro gb175 hg w10 hbox hb
                have n0_ := qm_ (qb_ (by (with_reducible repeat (first | apply qa_ | apply qn_ | apply qd_)); exact HO171.out) hb)
                have n1_ := qm_ (qs_ (g := gb161) (o := .cells #[.slice A0_0 l0_0.length c0_0, .slice A0_1 l0_1.length c0_1, .slice A0_2 l0_2.length c0_2] 30 (0, 0)) (by first | with_reducible exact BK161.out | with_reducible exact qu_ BK161.out _ | exact BK161.out | exact qw_ BK161.out _) hb)
                have n2_ := qm_ (qs_ (g := gb162) (o := .cells #[.slice none 0 0, .slice none 0 0, .slice none 0 0] 30 (0, 0)) (by first | with_reducible exact BK162.out | with_reducible exact qu_ BK162.out _ | exact BK162.out | exact qw_ BK162.out _) hb)
                have n3_ := qm_ (qh_ (by repeat (first | (with_reducible first | exact HB.out | apply qc_ | apply qx_ | apply qf_ | refine qg_ ?_ GE161.out | refine qg_ ?_ GE162.out) | exact HB.out)) hb)
                have n4_ := qm_ (hbox)
                have n5_ := qm_ ((by rw [hg]; exact (qz_ (by repeat (first | (with_reducible first | exact HB.out | apply qc_ | apply qx_ | apply qf_ | refine qg_ ?_ GE161.out | refine qg_ ?_ GE162.out) | exact HB.out))) : w.heap.size ≤ gb175))
                have n6_ := qm_ ((by rw [hg]; exact (qz_ (by repeat (first | (with_reducible first | exact HB.out | apply qc_ | apply qx_ | apply qf_ | refine qg_ ?_ GE161.out | refine qg_ ?_ GE162.out) | exact HB.out))) : w.heap.size ≤ gb175))
                have n7_ := qm_ ((by rw [hg]; exact Nat.ne_of_lt (blk_lt (g := gb161) (o := .cells #[.slice A0_0 l0_0.length c0_0, .slice A0_1 l0_1.length c0_1, .slice A0_2 l0_2.length c0_2] 30 (0, 0)) (by first | with_reducible exact BK161.out | with_reducible exact qu_ BK161.out _ | exact BK161.out | exact qw_ BK161.out _)) : gb161 ≠ gb175))
                have n8_ := qm_ ((by rw [hg]; exact Nat.ne_of_gt (blk_lt (g := gb161) (o := .cells #[.slice A0_0 l0_0.length c0_0, .slice A0_1 l0_1.length c0_1, .slice A0_2 l0_2.length c0_2] 30 (0, 0)) (by first | with_reducible exact BK161.out | with_reducible exact qu_ BK161.out _ | exact BK161.out | exact qw_ BK161.out _)) : gb175 ≠ gb161))
                have n9_ := qm_ ((by rw [hg]; exact Nat.ne_of_lt (blk_lt (g := gb162) (o := .cells #[.slice none 0 0, .slice none 0 0, .slice none 0 0] 30 (0, 0)) (by first | with_reducible exact BK162.out | with_reducible exact qu_ BK162.out _ | exact BK162.out | exact qw_ BK162.out _)) : gb162 ≠ gb175))
                have n10_ := qm_ ((by rw [hg]; exact Nat.ne_of_gt (blk_lt (g := gb162) (o := .cells #[.slice none 0 0, .slice none 0 0, .slice none 0 0] 30 (0, 0)) (by first | with_reducible exact BK162.out | with_reducible exact qu_ BK162.out _ | exact BK162.out | exact qw_ BK162.out _)) : gb175 ≠ gb162))
                clear HO171
                clear BK161
                clear BK162
                clear HB
                have HO171 := n0_
                have BK161 := n1_
                have BK162 := n2_
                have HB := n3_
                have BK175 := n4_
                have GW175 := n5_
                have GE175 := n6_
                have NB161_175 := n7_
                have NB175_161 := n8_
                have NB162_175 := n9_
                have NB175_162 := n10_
                clear n0_ n1_ n2_ n3_ n4_ n5_ n6_ n7_ n8_ n9_ n10_
                clear hb hbox hg
                refine hK.out _ _ ⟨(blk_cell BK161.out 0).trans rfl, (blk_cell BK161.out 1).trans rfl, (blk_cell BK161.out 2).trans rfl⟩ (fun hHeld => ?_)
                clear hK K
                refine norm_ (a' := ?_) ?_ ?_
                rotate_left
                ·show Act.put _ (some 3) _ = _
                 simp only [Act.put, la_, lb_, lc_, i64_w, i32_w]
                 rfl
                exact norm_ (by first | (simp only [putAll, Act.put, la_, lb_, lc_]; done) | (simp only [putAll, Act.put, la_, lb_, lc_]; rfl)) (hJ4_9 (v170, gb175) _ ⟨hHeld, (by (with_reducible repeat (first | apply qa_ | apply qn_ | apply qd_)); exact HO171.out), (by first | with_reducible exact BK161.out | with_reducible exact qu_ BK161.out _ | exact BK161.out | exact qw_ BK161.out _), (by first | with_reducible exact BK162.out | with_reducible exact qu_ BK162.out _ | exact BK162.out | exact qw_ BK162.out _), (by first | with_reducible exact BK175.out | with_reducible exact qu_ BK175.out _ | exact BK175.out | exact qw_ BK175.out _), GW175.out, GE175.out, NB161_175.out, NB175_161.out, NB162_175.out, NB175_162.out, (by repeat (first | (with_reducible first | exact HB.out | apply qc_ | apply qx_ | apply qf_ | refine qg_ ?_ GE161.out | refine qg_ ?_ GE162.out | refine qg_ ?_ GE175.out) | exact HB.out))⟩)
             ·skip
              rintro v164 w9 ⟨hS_, h0_, h1_, h2_, h3_⟩
              have n0_ : Aside0 (Kd.R Kd.bool 4 w9 w.heap.size (fun _ => True) v164 y163) := ⟨h0_⟩
              have n1_ : Aside0 (w9.heap[gb161]? = some (.cells #[.slice A0_0 l0_0.length c0_0, .slice A0_1 l0_1.length c0_1, .slice A0_2 l0_2.length c0_2] 30 (0, 0))) := ⟨h1_⟩
              have n2_ : Aside0 (w9.heap[gb162]? = some (.cells #[.slice none 0 0, .slice none 0 0, .slice none 0 0] 30 (0, 0))) := ⟨h2_⟩
              have n3_ : Aside0 (Below w.heap.size w w9) := ⟨h3_⟩
              clear BK161
              clear BK162
              clear HB
              clear h0_ h1_ h2_ h3_
              have HO165 := n0_
              have BK161 := n1_
              have BK162 := n2_
              have HB := n3_
              clear n0_ n1_ n2_ n3_
              have hHeld : w9.cell? ⟨gb161, 0, none⟩ = some (.slice A0_0 l0_0.length c0_0) ∧ w9.cell? ⟨gb161, 1, none⟩ = some (.slice A0_1 l0_1.length c0_1) ∧ w9.cell? ⟨gb161, 2, none⟩ = some (.slice A0_2 l0_2.length c0_2) := hS_
              refine norm_ (a' := ?_) ?_ ?_
              rotate_left
              ·simp only [putAll, Act.put, la_, lb_, lc_]
               rfl
              refine three_ (i := 3) (j := 4) (k := 9) (Ni := some 9) (Nj := some 10) (Nk := some 3) #[true, true, true, true, false, true, true, false, false, false, false] #[true, true, true, false, true, true, true, false, false, false, false] #[true, true, true, false, false, true, true, false, false, true, false] rfl rfl rfl rfl rfl rfl (three_of HT_.out (by kernel_rfl)) (by decide) (by decide) (by decide) (fun K hK => ?_) (fun K hK => ?_) (fun K hK => ?_)
              ·skip
               refine Kd.R_append_rows_step Kd.bool (w0 := w) w.heap.size (by rfl) (.tmp 6) (.tmp 8) 23 4 (.bool false) 1 rfl Try.underlying23 info4 rfl (by decide) (by omega) v164 y163 l0_1 _ _ _ (fun _ => True) (fun _ => False) rfl rfl ?aO ?aR (fun _ _ h => h) (fun _ h => h.elim) ?aF ?aB ?aS ?aL ?_
               (case aR => repeat (first | exact (Kd.C_below HR0_1.out HB.out) | (with_reducible refine Kd.C_alloc ?_ _) | (with_reducible refine Kd.C_drewN ?_ _) | (with_reducible refine Kd.C_drew ?_)))
               (case aB => exact (by repeat (first | (with_reducible first | exact HB.out | apply qc_ | apply qx_ | apply qf_ | refine qg_ ?_ GE161.out | refine qg_ ?_ GE162.out) | exact HB.out)))
               (case aF => exact (fun _ _ => trivial))
               (case aO => exact (by (with_reducible repeat (first | apply qa_ | apply qn_ | apply qd_)); exact HO165.out))
               (case aS => exact (qz_ (by repeat (first | (with_reducible first | exact HB.out | apply qc_ | apply qx_ | apply qf_ | refine qg_ ?_ GE161.out | refine qg_ ?_ GE162.out) | exact HB.out))))
               (case aL => have := LMc2.out; omega)
               intro v167 w10 ho hb hg hat
               rw [← Ny166.out] at ho
               have n0_ := qm_ (blk_grown (g := gb161) (o := .cells #[.slice A0_0 l0_0.length c0_0, .slice A0_1 l0_1.length c0_1, .slice A0_2 l0_2.length c0_2] 30 (0, 0)) (by first | with_reducible exact BK161.out | with_reducible exact qu_ BK161.out _ | exact BK161.out | exact qw_ BK161.out _) hg (Kd.R_ne HO165.out BK161.out (by decide)))
               have n1_ := qm_ (blk_grown (g := gb162) (o := .cells #[.slice none 0 0, .slice none 0 0, .slice none 0 0] 30 (0, 0)) (by first | with_reducible exact BK162.out | with_reducible exact qu_ BK162.out _ | exact BK162.out | exact qw_ BK162.out _) hg (Kd.R_ne HO165.out BK162.out (by decide)))
               have n2_ := qm_ (hb)
               have n3_ := qm_ (ho)
               clear BK161
               clear BK162
               clear HB
               clear HO165
               have BK161 := n0_
               have BK162 := n1_
               have HB := n2_
               have HO168 := n3_
               clear n0_ n1_ n2_ n3_
               clear ho hb hg hat
               refine hK.out _ _ ⟨(blk_cell BK161.out 0).trans rfl, (blk_cell BK161.out 1).trans rfl, (blk_cell BK161.out 2).trans rfl⟩ (fun hHeld => ?_)
               clear hK K
               refine norm_ (a' := ?_) ?_ ?_
               rotate_left
               ·show Act.put _ (some 9) _ = _
                simp only [Act.put, la_, lb_, lc_, i64_w, i32_w]
                rfl
               exact norm_ (by first | (simp only [putAll, Act.put, la_, lb_, lc_]; done) | (simp only [putAll, Act.put, la_, lb_, lc_]; rfl)) (hJ0_3 (v164, v167) _ ⟨hHeld, (by (with_reducible repeat (first | apply qa_ | apply qn_ | apply qd_)); exact HO168.out), (by first | with_reducible exact BK161.out | with_reducible exact qu_ BK161.out _ | exact BK161.out | exact qw_ BK161.out _), (by first | with_reducible exact BK162.out | with_reducible exact qu_ BK162.out _ | exact BK162.out | exact qw_ BK162.out _), (by repeat (first | (with_reducible first | exact HB.out | apply qc_ | apply qx_ | apply qf_ | refine qg_ ?_ GE161.out | refine qg_ ?_ GE162.out) | exact HB.out))⟩)
              ·skip
               refine Kd.R_lit_step (Kd.int .i64) _ 3 ?hg (N := 10) ?hd (xs := ([] : List Int)) (inner := []) (ok := fun _ => True) (okp := fun _ => True) ?hr ?hp (fun _ hk => hk) trivial (Below.refl _ _) (Nat.le_refl _) (by simp) ?_; (case hd => rfl); (case hg => rfl); (case hr => first | (go_simp; done) | (go_simp; rfl)); (case hp => exact (Reps.none _ _))
               intro v170 w10 ho11 hb hg_ hnew_
               clear hg_ hnew_
               (first | rw [← Ny169.out] at ho11 | (simp only [Int.reduceToNat] at ho11; rw [← Ny169.out] at ho11))
               have n0_ := qm_ (qb_ (by (with_reducible repeat (first | apply qa_ | apply qn_ | apply qd_)); exact HO165.out) hb)
               have n1_ := qm_ (ql_ ho11 (qz_ (by repeat (first | (with_reducible first | exact HB.out | apply qc_ | apply qx_ | apply qf_ | refine qg_ ?_ GE161.out | refine qg_ ?_ GE162.out) | exact HB.out))))
               have n2_ := qm_ (qs_ (g := gb161) (o := .cells #[.slice A0_0 l0_0.length c0_0, .slice A0_1 l0_1.length c0_1, .slice A0_2 l0_2.length c0_2] 30 (0, 0)) (by first | with_reducible exact BK161.out | with_reducible exact qu_ BK161.out _ | exact BK161.out | exact qw_ BK161.out _) hb)
               have n3_ := qm_ (qs_ (g := gb162) (o := .cells #[.slice none 0 0, .slice none 0 0, .slice none 0 0] 30 (0, 0)) (by first | with_reducible exact BK162.out | with_reducible exact qu_ BK162.out _ | exact BK162.out | exact qw_ BK162.out _) hb)
               have n4_ := qm_ (qh_ (by repeat (first | (with_reducible first | exact HB.out | apply qc_ | apply qx_ | apply qf_ | refine qg_ ?_ GE161.out | refine qg_ ?_ GE162.out) | exact HB.out)) hb)
               clear HO165
               clear BK161
               clear BK162
               clear HB
               have HO165 := n0_
               have HO171 := n1_
               have BK161 := n2_
               have BK162 := n3_
               have HB := n4_
               clear n0_ n1_ n2_ n3_ n4_
               clear hb ho11
               refine hK.out _ _ ⟨(blk_cell BK161.out 0).trans rfl, (blk_cell BK161.out 1).trans rfl, (blk_cell BK161.out 2).trans rfl⟩ (fun hHeld => ?_)
               clear hK K
               refine norm_ (a' := ?_) ?_ ?_
               rotate_left
               ·show Act.put _ (some 10) _ = _
                simp only [Act.put, la_, lb_, lc_, i64_w, i32_w]
                rfl
               exact norm_ (by first | (simp only [putAll, Act.put, la_, lb_, lc_]; done) | (simp only [putAll, Act.put, la_, lb_, lc_]; rfl)) (hJ0_4 (v164, v170) _ ⟨hHeld, (by (with_reducible repeat (first | apply qa_ | apply qn_ | apply qd_)); exact HO165.out), (by (with_reducible repeat (first | apply qa_ | apply qn_ | apply qd_)); exact HO171.out), (by first | with_reducible exact BK161.out | with_reducible exact qu_ BK161.out _ | exact BK161.out | exact qw_ BK161.out _), (by first | with_reducible exact BK162.out | with_reducible exact qu_ BK162.out _ | exact BK162.out | exact qw_ BK162.out _), (by repeat (first | (with_reducible first | exact HB.out | apply qc_ | apply qx_ | apply qf_ | refine qg_ ?_ GE161.out | refine qg_ ?_ GE162.out) | exact HB.out))⟩)
              ·skip
               refine box_step ?hg (N := 3) ?hd (cs := #[.slice none 0 0, .slice none 0 0, .slice none 0 0]) (t := 30) ?hr ?_; (case hd => rfl); (case hg => rfl); (case hr => first | (go_simp; done) | (go_simp; rfl))
               intro gb175 hg w10 hbox hb
               have n0_ := qm_ (qb_ (by (with_reducible repeat (first | apply qa_ | apply qn_ | apply qd_)); exact HO165.out) hb)
               have n1_ := qm_ (qs_ (g := gb161) (o := .cells #[.slice A0_0 l0_0.length c0_0, .slice A0_1 l0_1.length c0_1, .slice A0_2 l0_2.length c0_2] 30 (0, 0)) (by first | with_reducible exact BK161.out | with_reducible exact qu_ BK161.out _ | exact BK161.out | exact qw_ BK161.out _) hb)
               have n2_ := qm_ (qs_ (g := gb162) (o := .cells #[.slice none 0 0, .slice none 0 0, .slice none 0 0] 30 (0, 0)) (by first | with_reducible exact BK162.out | with_reducible exact qu_ BK162.out _ | exact BK162.out | exact qw_ BK162.out _) hb)
               have n3_ := qm_ (qh_ (by repeat (first | (with_reducible first | exact HB.out | apply qc_ | apply qx_ | apply qf_ | refine qg_ ?_ GE161.out | refine qg_ ?_ GE162.out) | exact HB.out)) hb)
               have n4_ := qm_ (hbox)
               have n5_ := qm_ ((by rw [hg]; exact (qz_ (by repeat (first | (with_reducible first | exact HB.out | apply qc_ | apply qx_ | apply qf_ | refine qg_ ?_ GE161.out | refine qg_ ?_ GE162.out) | exact HB.out))) : w.heap.size ≤ gb175))
               have n6_ := qm_ ((by rw [hg]; exact (qz_ (by repeat (first | (with_reducible first | exact HB.out | apply qc_ | apply qx_ | apply qf_ | refine qg_ ?_ GE161.out | refine qg_ ?_ GE162.out) | exact HB.out))) : w.heap.size ≤ gb175))
               have n7_ := qm_ ((by rw [hg]; exact Nat.ne_of_lt (blk_lt (g := gb161) (o := .cells #[.slice A0_0 l0_0.length c0_0, .slice A0_1 l0_1.length c0_1, .slice A0_2 l0_2.length c0_2] 30 (0, 0)) (by first | with_reducible exact BK161.out | with_reducible exact qu_ BK161.out _ | exact BK161.out | exact qw_ BK161.out _)) : gb161 ≠ gb175))
               have n8_ := qm_ ((by rw [hg]; exact Nat.ne_of_gt (blk_lt (g := gb161) (o := .cells #[.slice A0_0 l0_0.length c0_0, .slice A0_1 l0_1.length c0_1, .slice A0_2 l0_2.length c0_2] 30 (0, 0)) (by first | with_reducible exact BK161.out | with_reducible exact qu_ BK161.out _ | exact BK161.out | exact qw_ BK161.out _)) : gb175 ≠ gb161))
               have n9_ := qm_ ((by rw [hg]; exact Nat.ne_of_lt (blk_lt (g := gb162) (o := .cells #[.slice none 0 0, .slice none 0 0, .slice none 0 0] 30 (0, 0)) (by first | with_reducible exact BK162.out | with_reducible exact qu_ BK162.out _ | exact BK162.out | exact qw_ BK162.out _)) : gb162 ≠ gb175))
               have n10_ := qm_ ((by rw [hg]; exact Nat.ne_of_gt (blk_lt (g := gb162) (o := .cells #[.slice none 0 0, .slice none 0 0, .slice none 0 0] 30 (0, 0)) (by first | with_reducible exact BK162.out | with_reducible exact qu_ BK162.out _ | exact BK162.out | exact qw_ BK162.out _)) : gb175 ≠ gb162))
               clear HO165
               clear BK161
               clear BK162
               clear HB
               have HO165 := n0_
               have BK161 := n1_
               have BK162 := n2_
               have HB := n3_
               have BK175 := n4_
               have GW175 := n5_
               have GE175 := n6_
               have NB161_175 := n7_
               have NB175_161 := n8_
               have NB162_175 := n9_
               have NB175_162 := n10_
               clear n0_ n1_ n2_ n3_ n4_ n5_ n6_ n7_ n8_ n9_ n10_
               clear hb hbox hg
               refine hK.out _ _ ⟨(blk_cell BK161.out 0).trans rfl, (blk_cell BK161.out 1).trans rfl, (blk_cell BK161.out 2).trans rfl⟩ (fun hHeld => ?_)
               clear hK K
               refine norm_ (a' := ?_) ?_ ?_
               rotate_left
               ·show Act.put _ (some 3) _ = _
                simp only [Act.put, la_, lb_, lc_, i64_w, i32_w]
                rfl
               exact norm_ (by first | (simp only [putAll, Act.put, la_, lb_, lc_]; done) | (simp only [putAll, Act.put, la_, lb_, lc_]; rfl)) (hJ0_9 (v164, gb175) _ ⟨hHeld, (by (with_reducible repeat (first | apply qa_ | apply qn_ | apply qd_)); exact HO165.out), (by first | with_reducible exact BK161.out | with_reducible exact qu_ BK161.out _ | exact BK161.out | exact qw_ BK161.out _), (by first | with_reducible exact BK162.out | with_reducible exact qu_ BK162.out _ | exact BK162.out | exact qw_ BK162.out _), (by first | with_reducible exact BK175.out | with_reducible exact qu_ BK175.out _ | exact BK175.out | exact qw_ BK175.out _), GW175.out, GE175.out, NB161_175.out, NB175_161.out, NB162_175.out, NB175_162.out, (by repeat (first | (with_reducible first | exact HB.out | apply qc_ | apply qx_ | apply qf_ | refine qg_ ?_ GE161.out | refine qg_ ?_ GE162.out | refine qg_ ?_ GE175.out) | exact HB.out))⟩)
            ·skip
             rintro ⟨v170, gb175⟩ w10 ⟨hS_, h0_, h1_, h2_, h3_, h4_, h5_, h6_, h7_, h8_, h9_, h10_⟩
             have n0_ : Aside0 (Kd.R (Kd.int .i64) 3 w10 w.heap.size (fun _ => True) v170 y169) := ⟨h0_⟩
             have n1_ : Aside0 (w10.heap[gb161]? = some (.cells #[.slice A0_0 l0_0.length c0_0, .slice A0_1 l0_1.length c0_1, .slice A0_2 l0_2.length c0_2] 30 (0, 0))) := ⟨h1_⟩
             have n2_ : Aside0 (w10.heap[gb162]? = some (.cells #[.slice none 0 0, .slice none 0 0, .slice none 0 0] 30 (0, 0))) := ⟨h2_⟩
             have n3_ : Aside0 (w10.heap[gb175]? = some (.cells #[.slice none 0 0, .slice none 0 0, .slice none 0 0] 30 (0, 0))) := ⟨h3_⟩
             have n4_ : Aside0 (w.heap.size ≤ gb175) := ⟨h4_⟩
             have n5_ : Aside0 (w.heap.size ≤ gb175) := ⟨h5_⟩
             have n6_ : Aside0 (gb161 ≠ gb175) := ⟨h6_⟩
             have n7_ : Aside0 (gb175 ≠ gb161) := ⟨h7_⟩
             have n8_ : Aside0 (gb162 ≠ gb175) := ⟨h8_⟩
             have n9_ : Aside0 (gb175 ≠ gb162) := ⟨h9_⟩
             have n10_ : Aside0 (Below w.heap.size w w10) := ⟨h10_⟩
             clear BK161
             clear BK162
             clear HB
             clear h0_ h1_ h2_ h3_ h4_ h5_ h6_ h7_ h8_ h9_ h10_
             have HO171 := n0_
             have BK161 := n1_
             have BK162 := n2_
             have BK175 := n3_
             have GW175 := n4_
             have GE175 := n5_
             have NB161_175 := n6_
             have NB175_161 := n7_
             have NB162_175 := n8_
             have NB175_162 := n9_
             have HB := n10_
             clear n0_ n1_ n2_ n3_ n4_ n5_ n6_ n7_ n8_ n9_ n10_
             have hHeld : w10.cell? ⟨gb161, 0, none⟩ = some (.slice A0_0 l0_0.length c0_0) ∧ w10.cell? ⟨gb161, 1, none⟩ = some (.slice A0_1 l0_1.length c0_1) ∧ w10.cell? ⟨gb161, 2, none⟩ = some (.slice A0_2 l0_2.length c0_2) := hS_
             refine norm_ (a' := ?_) ?_ ?_
             rotate_left
             ·simp only [putAll, Act.put, la_, lb_, lc_]
              rfl
             refine one_ (i := 0) (N := some 6) #[true, true, true, false, true, true, true, false, false, true, false] rfl rfl (one_of HT_.out (by kernel_rfl)) (by decide) (fun K hK => ?_)
             refine Kd.R_lit_step Kd.bool _ 4 ?hg (N := 6) ?hd (xs := ([] : List Bool)) (inner := []) (ok := fun _ => True) (okp := fun _ => True) ?hr ?hp (fun _ hk => hk) trivial (Below.refl _ _) (Nat.le_refl _) (by simp) ?_; (case hd => rfl); (case hg => rfl); (case hr => first | (go_simp; done) | (go_simp; rfl)); (case hp => exact (Reps.none _ _))
             intro v164 w11 ho12 hb hg_ hnew_
             clear hg_ hnew_
             (first | rw [← Ny163.out] at ho12 | (simp only [Int.reduceToNat] at ho12; rw [← Ny163.out] at ho12))
             have n0_ := qm_ (qb_ (by (with_reducible repeat (first | apply qa_ | apply qn_ | apply qd_)); exact HO171.out) hb)
             have n1_ := qm_ (ql_ ho12 (qz_ (by repeat (first | (with_reducible first | exact HB.out | apply qc_ | apply qx_ | apply qf_ | refine qg_ ?_ GE161.out | refine qg_ ?_ GE162.out | refine qg_ ?_ GE175.out) | exact HB.out))))
             have n2_ := qm_ (qs_ (g := gb161) (o := .cells #[.slice A0_0 l0_0.length c0_0, .slice A0_1 l0_1.length c0_1, .slice A0_2 l0_2.length c0_2] 30 (0, 0)) (by first | with_reducible exact BK161.out | with_reducible exact qu_ BK161.out _ | exact BK161.out | exact qw_ BK161.out _) hb)
             have n3_ := qm_ (qs_ (g := gb162) (o := .cells #[.slice none 0 0, .slice none 0 0, .slice none 0 0] 30 (0, 0)) (by first | with_reducible exact BK162.out | with_reducible exact qu_ BK162.out _ | exact BK162.out | exact qw_ BK162.out _) hb)
             have n4_ := qm_ (qs_ (g := gb175) (o := .cells #[.slice none 0 0, .slice none 0 0, .slice none 0 0] 30 (0, 0)) (by first | with_reducible exact BK175.out | with_reducible exact qu_ BK175.out _ | exact BK175.out | exact qw_ BK175.out _) hb)
             have n5_ := qm_ (qh_ (by repeat (first | (with_reducible first | exact HB.out | apply qc_ | apply qx_ | apply qf_ | refine qg_ ?_ GE161.out | refine qg_ ?_ GE162.out | refine qg_ ?_ GE175.out) | exact HB.out)) hb)
             clear HO171
             clear BK161
             clear BK162
             clear BK175
             clear HB
             have HO171 := n0_
             have HO165 := n1_
             have BK161 := n2_
             have BK162 := n3_
             have BK175 := n4_
             have HB := n5_
             clear n0_ n1_ n2_ n3_ n4_ n5_
             clear hb ho12
             refine hK.out _ _ ⟨(blk_cell BK161.out 0).trans rfl, (blk_cell BK161.out 1).trans rfl, (blk_cell BK161.out 2).trans rfl⟩ (fun hHeld => ?_)
             clear hK K
             refine norm_ (a' := ?_) ?_ ?_
             rotate_left
             ·show Act.put _ (some 6) _ = _
              simp only [Act.put, la_, lb_, lc_, i64_w, i32_w]
              rfl
             exact norm_ (by first | (simp only [putAll, Act.put, la_, lb_, lc_]; done) | (simp only [putAll, Act.put, la_, lb_, lc_]; rfl)) (hJ0_4_9 (v164, v170, gb175) _ ⟨hHeld, (by (with_reducible repeat (first | apply qa_ | apply qn_ | apply qd_)); exact HO165.out), (by (with_reducible repeat (first | apply qa_ | apply qn_ | apply qd_)); exact HO171.out), (by first | with_reducible exact BK161.out | with_reducible exact qu_ BK161.out _ | exact BK161.out | exact qw_ BK161.out _), (by first | with_reducible exact BK162.out | with_reducible exact qu_ BK162.out _ | exact BK162.out | exact qw_ BK162.out _), (by first | with_reducible exact BK175.out | with_reducible exact qu_ BK175.out _ | exact BK175.out | exact qw_ BK175.out _), GW175.out, GE175.out, NB161_175.out, NB175_161.out, NB162_175.out, NB175_162.out, (by repeat (first | (with_reducible first | exact HB.out | apply qc_ | apply qx_ | apply qf_ | refine qg_ ?_ GE161.out | refine qg_ ?_ GE162.out | refine qg_ ?_ GE175.out) | exact HB.out))⟩)
           ·skip
            rintro ⟨v164, gb175⟩ w10 ⟨hS_, h0_, h1_, h2_, h3_, h4_, h5_, h6_, h7_, h8_, h9_, h10_⟩
            have n0_ : Aside0 (Kd.R Kd.bool 4 w10 w.heap.size (fun _ => True) v164 y163) := ⟨h0_⟩
            have n1_ : Aside0 (w10.heap[gb161]? = some (.cells #[.slice A0_0 l0_0.length c0_0, .slice A0_1 l0_1.length c0_1, .slice A0_2 l0_2.length c0_2] 30 (0, 0))) := ⟨h1_⟩
            have n2_ : Aside0 (w10.heap[gb162]? = some (.cells #[.slice none 0 0, .slice none 0 0, .slice none 0 0] 30 (0, 0))) := ⟨h2_⟩
            have n3_ : Aside0 (w10.heap[gb175]? = some (.cells #[.slice none 0 0, .slice none 0 0, .slice none 0 0] 30 (0, 0))) := ⟨h3_⟩
            have n4_ : Aside0 (w.heap.size ≤ gb175) := ⟨h4_⟩
            have n5_ : Aside0 (w.heap.size ≤ gb175) := ⟨h5_⟩
            have n6_ : Aside0 (gb161 ≠ gb175) := ⟨h6_⟩
            have n7_ : Aside0 (gb175 ≠ gb161) := ⟨h7_⟩
            have n8_ : Aside0 (gb162 ≠ gb175) := ⟨h8_⟩
            have n9_ : Aside0 (gb175 ≠ gb162) := ⟨h9_⟩
            have n10_ : Aside0 (Below w.heap.size w w10) := ⟨h10_⟩
            clear BK161
            clear BK162
            clear HB
            clear h0_ h1_ h2_ h3_ h4_ h5_ h6_ h7_ h8_ h9_ h10_
            have HO165 := n0_
            have BK161 := n1_
            have BK162 := n2_
            have BK175 := n3_
            have GW175 := n4_
            have GE175 := n5_
            have NB161_175 := n6_
            have NB175_161 := n7_
            have NB162_175 := n8_
            have NB175_162 := n9_
            have HB := n10_
            clear n0_ n1_ n2_ n3_ n4_ n5_ n6_ n7_ n8_ n9_ n10_
            have hHeld : w10.cell? ⟨gb161, 0, none⟩ = some (.slice A0_0 l0_0.length c0_0) ∧ w10.cell? ⟨gb161, 1, none⟩ = some (.slice A0_1 l0_1.length c0_1) ∧ w10.cell? ⟨gb161, 2, none⟩ = some (.slice A0_2 l0_2.length c0_2) := hS_
            refine norm_ (a' := ?_) ?_ ?_
            rotate_left
            ·simp only [putAll, Act.put, la_, lb_, lc_]
             rfl
            refine two_ (i := 3) (j := 4) (Ni := some 9) (Nj := some 10) #[true, true, true, true, false, true, true, false, false, true, false] #[true, true, true, false, true, true, true, false, false, true, false] rfl rfl rfl rfl (two_of HT_.out (by kernel_rfl)) (by decide) (by decide) (fun K hK => ?_) (fun K hK => ?_)
            ·skip
             refine Kd.R_append_rows_step Kd.bool (w0 := w) w.heap.size (by rfl) (.tmp 6) (.tmp 8) 23 4 (.bool false) 1 rfl Try.underlying23 info4 rfl (by decide) (by omega) v164 y163 l0_1 _ _ _ (fun _ => True) (fun _ => False) rfl rfl ?aO ?aR (fun _ _ h => h) (fun _ h => h.elim) ?aF ?aB ?aS ?aL ?_
             (case aR => repeat (first | exact (Kd.C_below HR0_1.out HB.out) | (with_reducible refine Kd.C_alloc ?_ _) | (with_reducible refine Kd.C_drewN ?_ _) | (with_reducible refine Kd.C_drew ?_)))
             (case aB => exact (by repeat (first | (with_reducible first | exact HB.out | apply qc_ | apply qx_ | apply qf_ | refine qg_ ?_ GE161.out | refine qg_ ?_ GE162.out | refine qg_ ?_ GE175.out) | exact HB.out)))
             (case aF => exact (fun _ _ => trivial))
             (case aO => exact (by (with_reducible repeat (first | apply qa_ | apply qn_ | apply qd_)); exact HO165.out))
             (case aS => exact (qz_ (by repeat (first | (with_reducible first | exact HB.out | apply qc_ | apply qx_ | apply qf_ | refine qg_ ?_ GE161.out | refine qg_ ?_ GE162.out | refine qg_ ?_ GE175.out) | exact HB.out))))
             (case aL => have := LMc2.out; omega)
             intro v167 w11 ho hb hg hat
             rw [← Ny166.out] at ho
             have n0_ := qm_ (blk_grown (g := gb161) (o := .cells #[.slice A0_0 l0_0.length c0_0, .slice A0_1 l0_1.length c0_1, .slice A0_2 l0_2.length c0_2] 30 (0, 0)) (by first | with_reducible exact BK161.out | with_reducible exact qu_ BK161.out _ | exact BK161.out | exact qw_ BK161.out _) hg (Kd.R_ne HO165.out BK161.out (by decide)))
             have n1_ := qm_ (blk_grown (g := gb162) (o := .cells #[.slice none 0 0, .slice none 0 0, .slice none 0 0] 30 (0, 0)) (by first | with_reducible exact BK162.out | with_reducible exact qu_ BK162.out _ | exact BK162.out | exact qw_ BK162.out _) hg (Kd.R_ne HO165.out BK162.out (by decide)))
             have n2_ := qm_ (blk_grown (g := gb175) (o := .cells #[.slice none 0 0, .slice none 0 0, .slice none 0 0] 30 (0, 0)) (by first | with_reducible exact BK175.out | with_reducible exact qu_ BK175.out _ | exact BK175.out | exact qw_ BK175.out _) hg (Kd.R_ne HO165.out BK175.out (by decide)))
             have n3_ := qm_ (hb)
             have n4_ := qm_ (ho)
             clear BK161
             clear BK162
             clear BK175
             clear HB
             clear HO165
             have BK161 := n0_
             have BK162 := n1_
             have BK175 := n2_
             have HB := n3_
             have HO168 := n4_
             clear n0_ n1_ n2_ n3_ n4_
             clear ho hb hg hat
             refine hK.out _ _ ⟨(blk_cell BK161.out 0).trans rfl, (blk_cell BK161.out 1).trans rfl, (blk_cell BK161.out 2).trans rfl⟩ (fun hHeld => ?_)
             clear hK K
             refine norm_ (a' := ?_) ?_ ?_
             rotate_left
             ·show Act.put _ (some 9) _ = _
              simp only [Act.put, la_, lb_, lc_, i64_w, i32_w]
              rfl
             exact norm_ (by first | (simp only [putAll, Act.put, la_, lb_, lc_]; done) | (simp only [putAll, Act.put, la_, lb_, lc_]; rfl)) (hJ0_3_9 (v164, v167, gb175) _ ⟨hHeld, (by (with_reducible repeat (first | apply qa_ | apply qn_ | apply qd_)); exact HO168.out), (by first | with_reducible exact BK161.out | with_reducible exact qu_ BK161.out _ | exact BK161.out | exact qw_ BK161.out _), (by first | with_reducible exact BK162.out | with_reducible exact qu_ BK162.out _ | exact BK162.out | exact qw_ BK162.out _), (by first | with_reducible exact BK175.out | with_reducible exact qu_ BK175.out _ | exact BK175.out | exact qw_ BK175.out _), GW175.out, GE175.out, NB161_175.out, NB175_161.out, NB162_175.out, NB175_162.out, (by repeat (first | (with_reducible first | exact HB.out | apply qc_ | apply qx_ | apply qf_ | refine qg_ ?_ GE161.out | refine qg_ ?_ GE162.out | refine qg_ ?_ GE175.out) | exact HB.out))⟩)
            ·skip
             refine Kd.R_lit_step (Kd.int .i64) _ 3 ?hg (N := 10) ?hd (xs := ([] : List Int)) (inner := []) (ok := fun _ => True) (okp := fun _ => True) ?hr ?hp (fun _ hk => hk) trivial (Below.refl _ _) (Nat.le_refl _) (by simp) ?_; (case hd => rfl); (case hg => rfl); (case hr => first | (go_simp; done) | (go_simp; rfl)); (case hp => exact (Reps.none _ _))
             intro v170 w11 ho12 hb hg_ hnew_
             clear hg_ hnew_
             (first | rw [← Ny169.out] at ho12 | (simp only [Int.reduceToNat] at ho12; rw [← Ny169.out] at ho12))
             have n0_ := qm_ (qb_ (by (with_reducible repeat (first | apply qa_ | apply qn_ | apply qd_)); exact HO165.out) hb)
             have n1_ := qm_ (ql_ ho12 (qz_ (by repeat (first | (with_reducible first | exact HB.out | apply qc_ | apply qx_ | apply qf_ | refine qg_ ?_ GE161.out | refine qg_ ?_ GE162.out | refine qg_ ?_ GE175.out) | exact HB.out))))
             have n2_ := qm_ (qs_ (g := gb161) (o := .cells #[.slice A0_0 l0_0.length c0_0, .slice A0_1 l0_1.length c0_1, .slice A0_2 l0_2.length c0_2] 30 (0, 0)) (by first | with_reducible exact BK161.out | with_reducible exact qu_ BK161.out _ | exact BK161.out | exact qw_ BK161.out _) hb)
             have n3_ := qm_ (qs_ (g := gb162) (o := .cells #[.slice none 0 0, .slice none 0 0, .slice none 0 0] 30 (0, 0)) (by first | with_reducible exact BK162.out | with_reducible exact qu_ BK162.out _ | exact BK162.out | exact qw_ BK162.out _) hb)
             have n4_ := qm_ (qs_ (g := gb175) (o := .cells #[.slice none 0 0, .slice none 0 0, .slice none 0 0] 30 (0, 0)) (by first | with_reducible exact BK175.out | with_reducible exact qu_ BK175.out _ | exact BK175.out | exact qw_ BK175.out _) hb)
             have n5_ := qm_ (qh_ (by repeat (first | (with_reducible first | exact HB.out | apply qc_ | apply qx_ | apply qf_ | refine qg_ ?_ GE161.out | refine qg_ ?_ GE162.out | refine qg_ ?_ GE175.out) | exact HB.out)) hb)
             clear HO165
             clear BK161
             clear BK162
             clear BK175
             clear HB
             have HO165 := n0_
             have HO171 := n1_
             have BK161 := n2_
             have BK162 := n3_
             have BK175 := n4_
             have HB := n5_
             clear n0_ n1_ n2_ n3_ n4_ n5_
             clear hb ho12
             refine hK.out _ _ ⟨(blk_cell BK161.out 0).trans rfl, (blk_cell BK161.out 1).trans rfl, (blk_cell BK161.out 2).trans rfl⟩ (fun hHeld => ?_)
             clear hK K
             refine norm_ (a' := ?_) ?_ ?_
             rotate_left
             ·show Act.put _ (some 10) _ = _
              simp only [Act.put, la_, lb_, lc_, i64_w, i32_w]
              rfl
             exact norm_ (by first | (simp only [putAll, Act.put, la_, lb_, lc_]; done) | (simp only [putAll, Act.put, la_, lb_, lc_]; rfl)) (hJ0_4_9 (v164, v170, gb175) _ ⟨hHeld, (by (with_reducible repeat (first | apply qa_ | apply qn_ | apply qd_)); exact HO165.out), (by (with_reducible repeat (first | apply qa_ | apply qn_ | apply qd_)); exact HO171.out), (by first | with_reducible exact BK161.out | with_reducible exact qu_ BK161.out _ | exact BK161.out | exact qw_ BK161.out _), (by first | with_reducible exact BK162.out | with_reducible exact qu_ BK162.out _ | exact BK162.out | exact qw_ BK162.out _), (by first | with_reducible exact BK175.out | with_reducible exact qu_ BK175.out _ | exact BK175.out | exact qw_ BK175.out _), GW175.out, GE175.out, NB161_175.out, NB175_161.out, NB162_175.out, NB175_162.out, (by repeat (first | (with_reducible first | exact HB.out | apply qc_ | apply qx_ | apply qf_ | refine qg_ ?_ GE161.out | refine qg_ ?_ GE162.out | refine qg_ ?_ GE175.out) | exact HB.out))⟩)
          ·skip
           rintro ⟨v164, v170⟩ w11 ⟨hS_, h0_, h1_, h2_, h3_, h4_⟩
           have n0_ : Aside0 (Kd.R Kd.bool 4 w11 w.heap.size (fun _ => True) v164 y163) := ⟨h0_⟩
           have n1_ : Aside0 (Kd.R (Kd.int .i64) 3 w11 w.heap.size (fun _ => True) v170 y169) := ⟨h1_⟩
           have n2_ : Aside0 (w11.heap[gb161]? = some (.cells #[.slice A0_0 l0_0.length c0_0, .slice A0_1 l0_1.length c0_1, .slice A0_2 l0_2.length c0_2] 30 (0, 0))) := ⟨h2_⟩
           have n3_ : Aside0 (w11.heap[gb162]? = some (.cells #[.slice none 0 0, .slice none 0 0, .slice none 0 0] 30 (0, 0))) := ⟨h3_⟩
           have n4_ : Aside0 (Below w.heap.size w w11) := ⟨h4_⟩
           clear BK161
           clear BK162
           clear HB
           clear h0_ h1_ h2_ h3_ h4_
           have HO165 := n0_
           have HO171 := n1_
           have BK161 := n2_
           have BK162 := n3_
           have HB := n4_
           clear n0_ n1_ n2_ n3_ n4_
           have hHeld : w11.cell? ⟨gb161, 0, none⟩ = some (.slice A0_0 l0_0.length c0_0) ∧ w11.cell? ⟨gb161, 1, none⟩ = some (.slice A0_1 l0_1.length c0_1) ∧ w11.cell? ⟨gb161, 2, none⟩ = some (.slice A0_2 l0_2.length c0_2) := hS_
           refine norm_ (a' := ?_) ?_ ?_
           rotate_left
           ·simp only [putAll, Act.put, la_, lb_, lc_]
            rfl
           refine two_ (i := 3) (j := 9) (Ni := some 9) (Nj := some 3) #[true, true, true, true, true, true, true, false, false, false, false] #[true, true, true, false, true, true, true, false, false, true, false] rfl rfl rfl rfl (two_of HT_.out (by kernel_rfl)) (by decide) (by decide) (fun K hK => ?_) (fun K hK => ?_)
           ·skip
            refine Kd.R_append_rows_step Kd.bool (w0 := w) w.heap.size (by rfl) (.tmp 6) (.tmp 8) 23 4 (.bool false) 1 rfl Try.underlying23 info4 rfl (by decide) (by omega) v164 y163 l0_1 _ _ _ (fun _ => True) (fun _ => False) rfl rfl ?aO ?aR (fun _ _ h => h) (fun _ h => h.elim) ?aF ?aB ?aS ?aL ?_
            (case aR => repeat (first | exact (Kd.C_below HR0_1.out HB.out) | (with_reducible refine Kd.C_alloc ?_ _) | (with_reducible refine Kd.C_drewN ?_ _) | (with_reducible refine Kd.C_drew ?_)))
            (case aB => exact (by repeat (first | (with_reducible first | exact HB.out | apply qc_ | apply qx_ | apply qf_ | refine qg_ ?_ GE161.out | refine qg_ ?_ GE162.out) | exact HB.out)))
            (case aF => exact (fun _ _ => trivial))
            (case aO => exact (by (with_reducible repeat (first | apply qa_ | apply qn_ | apply qd_)); exact HO165.out))
            (case aS => exact (qz_ (by repeat (first | (with_reducible first | exact HB.out | apply qc_ | apply qx_ | apply qf_ | refine qg_ ?_ GE161.out | refine qg_ ?_ GE162.out) | exact HB.out))))
            (case aL => have := LMc2.out; omega)
            intro v167 w12 ho hb hg hat
            rw [← Ny166.out] at ho
            have n0_ := qm_ (blk_grown (g := gb161) (o := .cells #[.slice A0_0 l0_0.length c0_0, .slice A0_1 l0_1.length c0_1, .slice A0_2 l0_2.length c0_2] 30 (0, 0)) (by first | with_reducible exact BK161.out | with_reducible exact qu_ BK161.out _ | exact BK161.out | exact qw_ BK161.out _) hg (Kd.R_ne HO165.out BK161.out (by decide)))
            have n1_ := qm_ (blk_grown (g := gb162) (o := .cells #[.slice none 0 0, .slice none 0 0, .slice none 0 0] 30 (0, 0)) (by first | with_reducible exact BK162.out | with_reducible exact qu_ BK162.out _ | exact BK162.out | exact qw_ BK162.out _) hg (Kd.R_ne HO165.out BK162.out (by decide)))
            have n2_ := qm_ (Kd.R_over' (by (with_reducible repeat (first | apply qa_ | apply qn_ | apply qd_)); exact HO171.out) (Kd.R_typed (by (with_reducible repeat (first | apply qa_ | apply qn_ | apply qd_)); exact HO165.out)) (by decide) hg)
            have n3_ := qm_ (hb)
            have n4_ := qm_ (ho)
            clear BK161
            clear BK162
            clear HO171
            clear HB
            clear HO165
            have BK161 := n0_
            have BK162 := n1_
            have HO171 := n2_
            have HB := n3_
            have HO168 := n4_
            clear n0_ n1_ n2_ n3_ n4_
            clear ho hb hg hat
            refine hK.out _ _ ⟨(blk_cell BK161.out 0).trans rfl, (blk_cell BK161.out 1).trans rfl, (blk_cell BK161.out 2).trans rfl⟩ (fun hHeld => ?_)
            clear hK K
            refine norm_ (a' := ?_) ?_ ?_
            rotate_left
            ·show Act.put _ (some 9) _ = _
             simp only [Act.put, la_, lb_, lc_, i64_w, i32_w]
             rfl
            exact norm_ (by first | (simp only [putAll, Act.put, la_, lb_, lc_]; done) | (simp only [putAll, Act.put, la_, lb_, lc_]; rfl)) (hJ0_3_4 (v164, v167, v170) _ ⟨hHeld, (by (with_reducible repeat (first | apply qa_ | apply qn_ | apply qd_)); exact HO168.out), (by (with_reducible repeat (first | apply qa_ | apply qn_ | apply qd_)); exact HO171.out), (by first | with_reducible exact BK161.out | with_reducible exact qu_ BK161.out _ | exact BK161.out | exact qw_ BK161.out _), (by first | with_reducible exact BK162.out | with_reducible exact qu_ BK162.out _ | exact BK162.out | exact qw_ BK162.out _), (by repeat (first | (with_reducible first | exact HB.out | apply qc_ | apply qx_ | apply qf_ | refine qg_ ?_ GE161.out | refine qg_ ?_ GE162.out) | exact HB.out))⟩)
           ·skip
            refine box_step ?hg (N := 3) ?hd (cs := #[.slice none 0 0, .slice none 0 0, .slice none 0 0]) (t := 30) ?hr ?_; (case hd => rfl); (case hg => rfl); (case hr => first | (go_simp; done) | (go_simp; rfl))
            intro gb175 hg w12 hbox hb
            have n0_ := qm_ (qb_ (by (with_reducible repeat (first | apply qa_ | apply qn_ | apply qd_)); exact HO165.out) hb)
            have n1_ := qm_ (qb_ (by (with_reducible repeat (first | apply qa_ | apply qn_ | apply qd_)); exact HO171.out) hb)
            have n2_ := qm_ (qs_ (g := gb161) (o := .cells #[.slice A0_0 l0_0.length c0_0, .slice A0_1 l0_1.length c0_1, .slice A0_2 l0_2.length c0_2] 30 (0, 0)) (by first | with_reducible exact BK161.out | with_reducible exact qu_ BK161.out _ | exact BK161.out | exact qw_ BK161.out _) hb)
            have n3_ := qm_ (qs_ (g := gb162) (o := .cells #[.slice none 0 0, .slice none 0 0, .slice none 0 0] 30 (0, 0)) (by first | with_reducible exact BK162.out | with_reducible exact qu_ BK162.out _ | exact BK162.out | exact qw_ BK162.out _) hb)
            have n4_ := qm_ (qh_ (by repeat (first | (with_reducible first | exact HB.out | apply qc_ | apply qx_ | apply qf_ | refine qg_ ?_ GE161.out | refine qg_ ?_ GE162.out) | exact HB.out)) hb)
            have n5_ := qm_ (hbox)
            have n6_ := qm_ ((by rw [hg]; exact (qz_ (by repeat (first | (with_reducible first | exact HB.out | apply qc_ | apply qx_ | apply qf_ | refine qg_ ?_ GE161.out | refine qg_ ?_ GE162.out) | exact HB.out))) : w.heap.size ≤ gb175))
            have n7_ := qm_ ((by rw [hg]; exact (qz_ (by repeat (first | (with_reducible first | exact HB.out | apply qc_ | apply qx_ | apply qf_ | refine qg_ ?_ GE161.out | refine qg_ ?_ GE162.out) | exact HB.out))) : w.heap.size ≤ gb175))
            have n8_ := qm_ ((by rw [hg]; exact Nat.ne_of_lt (blk_lt (g := gb161) (o := .cells #[.slice A0_0 l0_0.length c0_0, .slice A0_1 l0_1.length c0_1, .slice A0_2 l0_2.length c0_2] 30 (0, 0)) (by first | with_reducible exact BK161.out | with_reducible exact qu_ BK161.out _ | exact BK161.out | exact qw_ BK161.out _)) : gb161 ≠ gb175))
            have n9_ := qm_ ((by rw [hg]; exact Nat.ne_of_gt (blk_lt (g := gb161) (o := .cells #[.slice A0_0 l0_0.length c0_0, .slice A0_1 l0_1.length c0_1, .slice A0_2 l0_2.length c0_2] 30 (0, 0)) (by first | with_reducible exact BK161.out | with_reducible exact qu_ BK161.out _ | exact BK161.out | exact qw_ BK161.out _)) : gb175 ≠ gb161))
            have n10_ := qm_ ((by rw [hg]; exact Nat.ne_of_lt (blk_lt (g := gb162) (o := .cells #[.slice none 0 0, .slice none 0 0, .slice none 0 0] 30 (0, 0)) (by first | with_reducible exact BK162.out | with_reducible exact qu_ BK162.out _ | exact BK162.out | exact qw_ BK162.out _)) : gb162 ≠ gb175))
            have n11_ := qm_ ((by rw [hg]; exact Nat.ne_of_gt (blk_lt (g := gb162) (o := .cells #[.slice none 0 0, .slice none 0 0, .slice none 0 0] 30 (0, 0)) (by first | with_reducible exact BK162.out | with_reducible exact qu_ BK162.out _ | exact BK162.out | exact qw_ BK162.out _)) : gb175 ≠ gb162))
            clear HO165
            clear HO171
            clear BK161
            clear BK162
            clear HB
            have HO165 := n0_
            have HO171 := n1_
            have BK161 := n2_
            have BK162 := n3_
            have HB := n4_
            have BK175 := n5_
            have GW175 := n6_
            have GE175 := n7_
            have NB161_175 := n8_
            have NB175_161 := n9_
            have NB162_175 := n10_
            have NB175_162 := n11_
            clear n0_ n1_ n2_ n3_ n4_ n5_ n6_ n7_ n8_ n9_ n10_ n11_
            clear hb hbox hg
            refine hK.out _ _ ⟨(blk_cell BK161.out 0).trans rfl, (blk_cell BK161.out 1).trans rfl, (blk_cell BK161.out 2).trans rfl⟩ (fun hHeld => ?_)
            clear hK K
            refine norm_ (a' := ?_) ?_ ?_
            rotate_left
            ·show Act.put _ (some 3) _ = _
             simp only [Act.put, la_, lb_, lc_, i64_w, i32_w]
             rfl
            exact norm_ (by first | (simp only [putAll, Act.put, la_, lb_, lc_]; done) | (simp only [putAll, Act.put, la_, lb_, lc_]; rfl)) (hJ0_4_9 (v164, v170, gb175) _ ⟨hHeld, (by (with_reducible repeat (first | apply qa_ | apply qn_ | apply qd_)); exact HO165.out), (by (with_reducible repeat (first | apply qa_ | apply qn_ | apply qd_)); exact HO171.out), (by first | with_reducible exact BK161.out | with_reducible exact qu_ BK161.out _ | exact BK161.out | exact qw_ BK161.out _), (by first | with_reducible exact BK162.out | with_reducible exact qu_ BK162.out _ | exact BK162.out | exact qw_ BK162.out _), (by first | with_reducible exact BK175.out | with_reducible exact qu_ BK175.out _ | exact BK175.out | exact qw_ BK175.out _), GW175.out, GE175.out, NB161_175.out, NB175_161.out, NB162_175.out, NB175_162.out, (by repeat (first | (with_reducible first | exact HB.out | apply qc_ | apply qx_ | apply qf_ | refine qg_ ?_ GE161.out | refine qg_ ?_ GE162.out | refine qg_ ?_ GE175.out) | exact HB.out))⟩)
         ·skip
          rintro ⟨v164, v167⟩ w10 ⟨hS_, h0_, h1_, h2_, h3_⟩
          have n0_ : Aside0 (Kd.R Kd.bool 4 w10 w.heap.size (fun _ => True) v167 y166) := ⟨h0_⟩
          have n1_ : Aside0 (w10.heap[gb161]? = some (.cells #[.slice A0_0 l0_0.length c0_0, .slice A0_1 l0_1.length c0_1, .slice A0_2 l0_2.length c0_2] 30 (0, 0))) := ⟨h1_⟩
          have n2_ : Aside0 (w10.heap[gb162]? = some (.cells #[.slice none 0 0, .slice none 0 0, .slice none 0 0] 30 (0, 0))) := ⟨h2_⟩
          have n3_ : Aside0 (Below w.heap.size w w10) := ⟨h3_⟩
          clear BK161
          clear BK162
          clear HB
          clear h0_ h1_ h2_ h3_
          have HO168 := n0_
          have BK161 := n1_
          have BK162 := n2_
          have HB := n3_
          clear n0_ n1_ n2_ n3_
          have hHeld : w10.cell? ⟨gb161, 0, none⟩ = some (.slice A0_0 l0_0.length c0_0) ∧ w10.cell? ⟨gb161, 1, none⟩ = some (.slice A0_1 l0_1.length c0_1) ∧ w10.cell? ⟨gb161, 2, none⟩ = some (.slice A0_2 l0_2.length c0_2) := hS_
          refine norm_ (a' := ?_) ?_ ?_
          rotate_left
          ·simp only [putAll, Act.put, la_, lb_, lc_]
           rfl
          refine two_ (i := 4) (j := 9) (Ni := some 10) (Nj := some 3) #[true, true, true, true, true, true, true, false, false, false, false] #[true, true, true, true, false, true, true, false, false, true, false] rfl rfl rfl rfl (two_of HT_.out (by kernel_rfl)) (by decide) (by decide) (fun K hK => ?_) (fun K hK => ?_)
          ·skip
           refine Kd.R_lit_step (Kd.int .i64) _ 3 ?hg (N := 10) ?hd (xs := ([] : List Int)) (inner := []) (ok := fun _ => True) (okp := fun _ => True) ?hr ?hp (fun _ hk => hk) trivial (Below.refl _ _) (Nat.le_refl _) (by simp) ?_; (case hd => rfl); (case hg => rfl); (case hr => first | (go_simp; done) | (go_simp; rfl)); (case hp => exact (Reps.none _ _))
           intro v170 w11 ho12 hb hg_ hnew_
           clear hg_ hnew_
           (first | rw [← Ny169.out] at ho12 | (simp only [Int.reduceToNat] at ho12; rw [← Ny169.out] at ho12))
           have n0_ := qm_ (qb_ (by (with_reducible repeat (first | apply qa_ | apply qn_ | apply qd_)); exact HO168.out) hb)
           have n1_ := qm_ (ql_ ho12 (qz_ (by repeat (first | (with_reducible first | exact HB.out | apply qc_ | apply qx_ | apply qf_ | refine qg_ ?_ GE161.out | refine qg_ ?_ GE162.out) | exact HB.out))))
           have n2_ := qm_ (qs_ (g := gb161) (o := .cells #[.slice A0_0 l0_0.length c0_0, .slice A0_1 l0_1.length c0_1, .slice A0_2 l0_2.length c0_2] 30 (0, 0)) (by first | with_reducible exact BK161.out | with_reducible exact qu_ BK161.out _ | exact BK161.out | exact qw_ BK161.out _) hb)
           have n3_ := qm_ (qs_ (g := gb162) (o := .cells #[.slice none 0 0, .slice none 0 0, .slice none 0 0] 30 (0, 0)) (by first | with_reducible exact BK162.out | with_reducible exact qu_ BK162.out _ | exact BK162.out | exact qw_ BK162.out _) hb)
           have n4_ := qm_ (qh_ (by repeat (first | (with_reducible first | exact HB.out | apply qc_ | apply qx_ | apply qf_ | refine qg_ ?_ GE161.out | refine qg_ ?_ GE162.out) | exact HB.out)) hb)
           clear HO168
           clear BK161
           clear BK162
           clear HB
           have HO168 := n0_
           have HO171 := n1_
           have BK161 := n2_
           have BK162 := n3_
           have HB := n4_
           clear n0_ n1_ n2_ n3_ n4_
           clear hb ho12
           refine hK.out _ _ ⟨(blk_cell BK161.out 0).trans rfl, (blk_cell BK161.out 1).trans rfl, (blk_cell BK161.out 2).trans rfl⟩ (fun hHeld => ?_)
           clear hK K
           refine norm_ (a' := ?_) ?_ ?_
           rotate_left
           ·show Act.put _ (some 10) _ = _
            simp only [Act.put, la_, lb_, lc_, i64_w, i32_w]
            rfl
           exact norm_ (by first | (simp only [putAll, Act.put, la_, lb_, lc_]; done) | (simp only [putAll, Act.put, la_, lb_, lc_]; rfl)) (hJ0_3_4 (v164, v167, v170) _ ⟨hHeld, (by (with_reducible repeat (first | apply qa_ | apply qn_ | apply qd_)); exact HO168.out), (by (with_reducible repeat (first | apply qa_ | apply qn_ | apply qd_)); exact HO171.out), (by first | with_reducible exact BK161.out | with_reducible exact qu_ BK161.out _ | exact BK161.out | exact qw_ BK161.out _), (by first | with_reducible exact BK162.out | with_reducible exact qu_ BK162.out _ | exact BK162.out | exact qw_ BK162.out _), (by repeat (first | (with_reducible first | exact HB.out | apply qc_ | apply qx_ | apply qf_ | refine qg_ ?_ GE161.out | refine qg_ ?_ GE162.out) | exact HB.out))⟩)
          ·skip
           refine box_step ?hg (N := 3) ?hd (cs := #[.slice none 0 0, .slice none 0 0, .slice none 0 0]) (t := 30) ?hr ?_; (case hd => rfl); (case hg => rfl); (case hr => first | (go_simp; done) | (go_simp; rfl))
           intro gb175 hg w11 hbox hb
           have n0_ := qm_ (qb_ (by (with_reducible repeat (first | apply qa_ | apply qn_ | apply qd_)); exact HO168.out) hb)
           have n1_ := qm_ (qs_ (g := gb161) (o := .cells #[.slice A0_0 l0_0.length c0_0, .slice A0_1 l0_1.length c0_1, .slice A0_2 l0_2.length c0_2] 30 (0, 0)) (by first | with_reducible exact BK161.out | with_reducible exact qu_ BK161.out _ | exact BK161.out | exact qw_ BK161.out _) hb)
           have n2_ := qm_ (qs_ (g := gb162) (o := .cells #[.slice none 0 0, .slice none 0 0, .slice none 0 0] 30 (0, 0)) (by first | with_reducible exact BK162.out | with_reducible exact qu_ BK162.out _ | exact BK162.out | exact qw_ BK162.out _) hb)
           have n3_ := qm_ (qh_ (by repeat (first | (with_reducible first | exact HB.out | apply qc_ | apply qx_ | apply qf_ | refine qg_ ?_ GE161.out | refine qg_ ?_ GE162.out) | exact HB.out)) hb)
           have n4_ := qm_ (hbox)
           have n5_ := qm_ ((by rw [hg]; exact (qz_ (by repeat (first | (with_reducible first | exact HB.out | apply qc_ | apply qx_ | apply qf_ | refine qg_ ?_ GE161.out | refine qg_ ?_ GE162.out) | exact HB.out))) : w.heap.size ≤ gb175))
           have n6_ := qm_ ((by rw [hg]; exact (qz_ (by repeat (first | (with_reducible first | exact HB.out | apply qc_ | apply qx_ | apply qf_ | refine qg_ ?_ GE161.out | refine qg_ ?_ GE162.out) | exact HB.out))) : w.heap.size ≤ gb175))
           have n7_ := qm_ ((by rw [hg]; exact Nat.ne_of_lt (blk_lt (g := gb161) (o := .cells #[.slice A0_0 l0_0.length c0_0, .slice A0_1 l0_1.length c0_1, .slice A0_2 l0_2.length c0_2] 30 (0, 0)) (by first | with_reducible exact BK161.out | with_reducible exact qu_ BK161.out _ | exact BK161.out | exact qw_ BK161.out _)) : gb161 ≠ gb175))
           have n8_ := qm_ ((by rw [hg]; exact Nat.ne_of_gt (blk_lt (g := gb161) (o := .cells #[.slice A0_0 l0_0.length c0_0, .slice A0_1 l0_1.length c0_1, .slice A0_2 l0_2.length c0_2] 30 (0, 0)) (by first | with_reducible exact BK161.out | with_reducible exact qu_ BK161.out _ | exact BK161.out | exact qw_ BK161.out _)) : gb175 ≠ gb161))
           have n9_ := qm_ ((by rw [hg]; exact Nat.ne_of_lt (blk_lt (g := gb162) (o := .cells #[.slice none 0 0, .slice none 0 0, .slice none 0 0] 30 (0, 0)) (by first | with_reducible exact BK162.out | with_reducible exact qu_ BK162.out _ | exact BK162.out | exact qw_ BK162.out _)) : gb162 ≠ gb175))
           have n10_ := qm_ ((by rw [hg]; exact Nat.ne_of_gt (blk_lt (g := gb162) (o := .cells #[.slice none 0 0, .slice none 0 0, .slice none 0 0] 30 (0, 0)) (by first | with_reducible exact BK162.out | with_reducible exact qu_ BK162.out _ | exact BK162.out | exact qw_ BK162.out _)) : gb175 ≠ gb162))
           clear HO168
           clear BK161
           clear BK162
           clear HB
           have HO168 := n0_
           have BK161 := n1_
           have BK162 := n2_
           have HB := n3_
           have BK175 := n4_
           have GW175 := n5_
           have GE175 := n6_
           have NB161_175 := n7_
           have NB175_161 := n8_
           have NB162_175 := n9_
           have NB175_162 := n10_
           clear n0_ n1_ n2_ n3_ n4_ n5_ n6_ n7_ n8_ n9_ n10_
           clear hb hbox hg
           refine hK.out _ _ ⟨(blk_cell BK161.out 0).trans rfl, (blk_cell BK161.out 1).trans rfl, (blk_cell BK161.out 2).trans rfl⟩ (fun hHeld => ?_)
           clear hK K
           refine norm_ (a' := ?_) ?_ ?_
           rotate_left
           ·show Act.put _ (some 3) _ = _
            simp only [Act.put, la_, lb_, lc_, i64_w, i32_w]
            rfl
           exact norm_ (by first | (simp only [putAll, Act.put, la_, lb_, lc_]; done) | (simp only [putAll, Act.put, la_, lb_, lc_]; rfl)) (hJ0_3_9 (v164, v167, gb175) _ ⟨hHeld, (by (with_reducible repeat (first | apply qa_ | apply qn_ | apply qd_)); exact HO168.out), (by first | with_reducible exact BK161.out | with_reducible exact qu_ BK161.out _ | exact BK161.out | exact qw_ BK161.out _), (by first | with_reducible exact BK162.out | with_reducible exact qu_ BK162.out _ | exact BK162.out | exact qw_ BK162.out _), (by first | with_reducible exact BK175.out | with_reducible exact qu_ BK175.out _ | exact BK175.out | exact qw_ BK175.out _), GW175.out, GE175.out, NB161_175.out, NB175_161.out, NB162_175.out, NB175_162.out, (by repeat (first | (with_reducible first | exact HB.out | apply qc_ | apply qx_ | apply qf_ | refine qg_ ?_ GE161.out | refine qg_ ?_ GE162.out | refine qg_ ?_ GE175.out) | exact HB.out))⟩)
        ·skip
         rintro ⟨v164, v170, gb175⟩ w12 ⟨hS_, h0_, h1_, h2_, h3_, h4_, h5_, h6_, h7_, h8_, h9_, h10_, h11_⟩
         have n0_ : Aside0 (Kd.R Kd.bool 4 w12 w.heap.size (fun _ => True) v164 y163) := ⟨h0_⟩
         have n1_ : Aside0 (Kd.R (Kd.int .i64) 3 w12 w.heap.size (fun _ => True) v170 y169) := ⟨h1_⟩
         have n2_ : Aside0 (w12.heap[gb161]? = some (.cells #[.slice A0_0 l0_0.length c0_0, .slice A0_1 l0_1.length c0_1, .slice A0_2 l0_2.length c0_2] 30 (0, 0))) := ⟨h2_⟩
         have n3_ : Aside0 (w12.heap[gb162]? = some (.cells #[.slice none 0 0, .slice none 0 0, .slice none 0 0] 30 (0, 0))) := ⟨h3_⟩
         have n4_ : Aside0 (w12.heap[gb175]? = some (.cells #[.slice none 0 0, .slice none 0 0, .slice none 0 0] 30 (0, 0))) := ⟨h4_⟩
         have n5_ : Aside0 (w.heap.size ≤ gb175) := ⟨h5_⟩
         have n6_ : Aside0 (w.heap.size ≤ gb175) := ⟨h6_⟩
         have n7_ : Aside0 (gb161 ≠ gb175) := ⟨h7_⟩
         have n8_ : Aside0 (gb175 ≠ gb161) := ⟨h8_⟩
         have n9_ : Aside0 (gb162 ≠ gb175) := ⟨h9_⟩
         have n10_ : Aside0 (gb175 ≠ gb162) := ⟨h10_⟩
         have n11_ : Aside0 (Below w.heap.size w w12) := ⟨h11_⟩
         clear BK161
         clear BK162
         clear HB
         clear h0_ h1_ h2_ h3_ h4_ h5_ h6_ h7_ h8_ h9_ h10_ h11_
         have HO165 := n0_
         have HO171 := n1_
         have BK161 := n2_
         have BK162 := n3_
         have BK175 := n4_
         have GW175 := n5_
         have GE175 := n6_
         have NB161_175 := n7_
         have NB175_161 := n8_
         have NB162_175 := n9_
         have NB175_162 := n10_
         have HB := n11_
         clear n0_ n1_ n2_ n3_ n4_ n5_ n6_ n7_ n8_ n9_ n10_ n11_
         have hHeld : w12.cell? ⟨gb161, 0, none⟩ = some (.slice A0_0 l0_0.length c0_0) ∧ w12.cell? ⟨gb161, 1, none⟩ = some (.slice A0_1 l0_1.length c0_1) ∧ w12.cell? ⟨gb161, 2, none⟩ = some (.slice A0_2 l0_2.length c0_2) := hS_
         refine norm_ (a' := ?_) ?_ ?_
         rotate_left
         ·simp only [putAll, Act.put, la_, lb_, lc_]
          rfl
         refine one_ (i := 3) (N := some 9) #[true, true, true, true, true, true, true, false, false, true, false] rfl rfl (one_of HT_.out (by kernel_rfl)) (by decide) (fun K hK => ?_)
         refine Kd.R_append_rows_step Kd.bool (w0 := w) w.heap.size (by rfl) (.tmp 6) (.tmp 8) 23 4 (.bool false) 1 rfl Try.underlying23 info4 rfl (by decide) (by omega) v164 y163 l0_1 _ _ _ (fun _ => True) (fun _ => False) rfl rfl ?aO ?aR (fun _ _ h => h) (fun _ h => h.elim) ?aF ?aB ?aS ?aL ?_
         (case aR => repeat (first | exact (Kd.C_below HR0_1.out HB.out) | (with_reducible refine Kd.C_alloc ?_ _) | (with_reducible refine Kd.C_drewN ?_ _) | (with_reducible refine Kd.C_drew ?_)))
         (case aB => exact (by repeat (first | (with_reducible first | exact HB.out | apply qc_ | apply qx_ | apply qf_ | refine qg_ ?_ GE161.out | refine qg_ ?_ GE162.out | refine qg_ ?_ GE175.out) | exact HB.out)))
         (case aF => exact (fun _ _ => trivial))
         (case aO => exact (by (with_reducible repeat (first | apply qa_ | apply qn_ | apply qd_)); exact HO165.out))
         (case aS => exact (qz_ (by repeat (first | (with_reducible first | exact HB.out | apply qc_ | apply qx_ | apply qf_ | refine qg_ ?_ GE161.out | refine qg_ ?_ GE162.out | refine qg_ ?_ GE175.out) | exact HB.out))))
         (case aL => have := LMc2.out; omega)
         intro v167 w13 ho hb hg hat
         rw [← Ny166.out] at ho
         have n0_ := qm_ (blk_grown (g := gb161) (o := .cells #[.slice A0_0 l0_0.length c0_0, .slice A0_1 l0_1.length c0_1, .slice A0_2 l0_2.length c0_2] 30 (0, 0)) (by first | with_reducible exact BK161.out | with_reducible exact qu_ BK161.out _ | exact BK161.out | exact qw_ BK161.out _) hg (Kd.R_ne HO165.out BK161.out (by decide)))
         have n1_ := qm_ (blk_grown (g := gb162) (o := .cells #[.slice none 0 0, .slice none 0 0, .slice none 0 0] 30 (0, 0)) (by first | with_reducible exact BK162.out | with_reducible exact qu_ BK162.out _ | exact BK162.out | exact qw_ BK162.out _) hg (Kd.R_ne HO165.out BK162.out (by decide)))
         have n2_ := qm_ (Kd.R_over' (by (with_reducible repeat (first | apply qa_ | apply qn_ | apply qd_)); exact HO171.out) (Kd.R_typed (by (with_reducible repeat (first | apply qa_ | apply qn_ | apply qd_)); exact HO165.out)) (by decide) hg)
         have n3_ := qm_ (blk_grown (g := gb175) (o := .cells #[.slice none 0 0, .slice none 0 0, .slice none 0 0] 30 (0, 0)) (by first | with_reducible exact BK175.out | with_reducible exact qu_ BK175.out _ | exact BK175.out | exact qw_ BK175.out _) hg (Kd.R_ne HO165.out BK175.out (by decide)))
         have n4_ := qm_ (hb)
         have n5_ := qm_ (ho)
         clear BK161
         clear BK162
         clear HO171
         clear BK175
         clear HB
         clear HO165
         have BK161 := n0_
         have BK162 := n1_
         have HO171 := n2_
         have BK175 := n3_
         have HB := n4_
         have HO168 := n5_
         clear n0_ n1_ n2_ n3_ n4_ n5_
         clear ho hb hg hat
         refine hK.out _ _ ⟨(blk_cell BK161.out 0).trans rfl, (blk_cell BK161.out 1).trans rfl, (blk_cell BK161.out 2).trans rfl⟩ (fun hHeld => ?_)
         clear hK K
         refine norm_ (a' := ?_) ?_ ?_
         rotate_left
         ·show Act.put _ (some 9) _ = _
          simp only [Act.put, la_, lb_, lc_, i64_w, i32_w]
          rfl
         exact norm_ (by first | (simp only [putAll, Act.put, la_, lb_, lc_]; done) | (simp only [putAll, Act.put, la_, lb_, lc_]; rfl)) (hJ0_3_4_9 (v164, v167, v170, gb175) _ ⟨hHeld, (by (with_reducible repeat (first | apply qa_ | apply qn_ | apply qd_)); exact HO168.out), (by (with_reducible repeat (first | apply qa_ | apply qn_ | apply qd_)); exact HO171.out), (by first | with_reducible exact BK161.out | with_reducible exact qu_ BK161.out _ | exact BK161.out | exact qw_ BK161.out _), (by first | with_reducible exact BK162.out | with_reducible exact qu_ BK162.out _ | exact BK162.out | exact qw_ BK162.out _), (by first | with_reducible exact BK175.out | with_reducible exact qu_ BK175.out _ | exact BK175.out | exact qw_ BK175.out _), GW175.out, GE175.out, NB161_175.out, NB175_161.out, NB162_175.out, NB175_162.out, (by repeat (first | (with_reducible first | exact HB.out | apply qc_ | apply qx_ | apply qf_ | refine qg_ ?_ GE161.out | refine qg_ ?_ GE162.out | refine qg_ ?_ GE175.out) | exact HB.out))⟩)
       ·skip
        rintro ⟨v164, v167, gb175⟩ w11 ⟨hS_, h0_, h1_, h2_, h3_, h4_, h5_, h6_, h7_, h8_, h9_, h10_⟩
        have n0_ : Aside0 (Kd.R Kd.bool 4 w11 w.heap.size (fun _ => True) v167 y166) := ⟨h0_⟩
        have n1_ : Aside0 (w11.heap[gb161]? = some (.cells #[.slice A0_0 l0_0.length c0_0, .slice A0_1 l0_1.length c0_1, .slice A0_2 l0_2.length c0_2] 30 (0, 0))) := ⟨h1_⟩
        have n2_ : Aside0 (w11.heap[gb162]? = some (.cells #[.slice none 0 0, .slice none 0 0, .slice none 0 0] 30 (0, 0))) := ⟨h2_⟩
        have n3_ : Aside0 (w11.heap[gb175]? = some (.cells #[.slice none 0 0, .slice none 0 0, .slice none 0 0] 30 (0, 0))) := ⟨h3_⟩
        have n4_ : Aside0 (w.heap.size ≤ gb175) := ⟨h4_⟩
        have n5_ : Aside0 (w.heap.size ≤ gb175) := ⟨h5_⟩
        have n6_ : Aside0 (gb161 ≠ gb175) := ⟨h6_⟩
        have n7_ : Aside0 (gb175 ≠ gb161) := ⟨h7_⟩
        have n8_ : Aside0 (gb162 ≠ gb175) := ⟨h8_⟩
        have n9_ : Aside0 (gb175 ≠ gb162) := ⟨h9_⟩
        have n10_ : Aside0 (Below w.heap.size w w11) := ⟨h10_⟩
        clear BK161
        clear BK162
        clear HB
        clear h0_ h1_ h2_ h3_ h4_ h5_ h6_ h7_ h8_ h9_ h10_
        have HO168 := n0_
        have BK161 := n1_
        have BK162 := n2_
        have BK175 := n3_
        have GW175 := n4_
        have GE175 := n5_
        have NB161_175 := n6_
        have NB175_161 := n7_
        have NB162_175 := n8_
        have NB175_162 := n9_
        have HB := n10_
        clear n0_ n1_ n2_ n3_ n4_ n5_ n6_ n7_ n8_ n9_ n10_
        have hHeld : w11.cell? ⟨gb161, 0, none⟩ = some (.slice A0_0 l0_0.length c0_0) ∧ w11.cell? ⟨gb161, 1, none⟩ = some (.slice A0_1 l0_1.length c0_1) ∧ w11.cell? ⟨gb161, 2, none⟩ = some (.slice A0_2 l0_2.length c0_2) := hS_
        refine norm_ (a' := ?_) ?_ ?_
        rotate_left
        ·simp only [putAll, Act.put, la_, lb_, lc_]
         rfl
        refine one_ (i := 4) (N := some 10) #[true, true, true, true, true, true, true, false, false, true, false] rfl rfl (one_of HT_.out (by kernel_rfl)) (by decide) (fun K hK => ?_)
        refine Kd.R_lit_step (Kd.int .i64) _ 3 ?hg (N := 10) ?hd (xs := ([] : List Int)) (inner := []) (ok := fun _ => True) (okp := fun _ => True) ?hr ?hp (fun _ hk => hk) trivial (Below.refl _ _) (Nat.le_refl _) (by simp) ?_; (case hd => rfl); (case hg => rfl); (case hr => first | (go_simp; done) | (go_simp; rfl)); (case hp => exact (Reps.none _ _))
        intro v170 w12 ho13 hb hg_ hnew_
        clear hg_ hnew_
        (first | rw [← Ny169.out] at ho13 | (simp only [Int.reduceToNat] at ho13; rw [← Ny169.out] at ho13))
        have n0_ := qm_ (qb_ (by (with_reducible repeat (first | apply qa_ | apply qn_ | apply qd_)); exact HO168.out) hb)
        have n1_ := qm_ (ql_ ho13 (qz_ (by repeat (first | (with_reducible first | exact HB.out | apply qc_ | apply qx_ | apply qf_ | refine qg_ ?_ GE161.out | refine qg_ ?_ GE162.out | refine qg_ ?_ GE175.out) | exact HB.out))))
        have n2_ := qm_ (qs_ (g := gb161) (o := .cells #[.slice A0_0 l0_0.length c0_0, .slice A0_1 l0_1.length c0_1, .slice A0_2 l0_2.length c0_2] 30 (0, 0)) (by first | with_reducible exact BK161.out | with_reducible exact qu_ BK161.out _ | exact BK161.out | exact qw_ BK161.out _) hb)
        have n3_ := qm_ (qs_ (g := gb162) (o := .cells #[.slice none 0 0, .slice none 0 0, .slice none 0 0] 30 (0, 0)) (by first | with_reducible exact BK162.out | with_reducible exact qu_ BK162.out _ | exact BK162.out | exact qw_ BK162.out _) hb)
        have n4_ := qm_ (qs_ (g := gb175) (o := .cells #[.slice none 0 0, .slice none 0 0, .slice none 0 0] 30 (0, 0)) (by first | with_reducible exact BK175.out | with_reducible exact qu_ BK175.out _ | exact BK175.out | exact qw_ BK175.out _) hb)
        have n5_ := qm_ (qh_ (by repeat (first | (with_reducible first | exact HB.out | apply qc_ | apply qx_ | apply qf_ | refine qg_ ?_ GE161.out | refine qg_ ?_ GE162.out | refine qg_ ?_ GE175.out) | exact HB.out)) hb)
        clear HO168
        clear BK161
        clear BK162
        clear BK175
        clear HB
        have HO168 := n0_
        have HO171 := n1_
        have BK161 := n2_
        have BK162 := n3_
        have BK175 := n4_
        have HB := n5_
        clear n0_ n1_ n2_ n3_ n4_ n5_
        clear hb ho13
        refine hK.out _ _ ⟨(blk_cell BK161.out 0).trans rfl, (blk_cell BK161.out 1).trans rfl, (blk_cell BK161.out 2).trans rfl⟩ (fun hHeld => ?_)
        clear hK K
        refine norm_ (a' := ?_) ?_ ?_
        rotate_left
        ·show Act.put _ (some 10) _ = _
         simp only [Act.put, la_, lb_, lc_, i64_w, i32_w]
         rfl
        exact norm_ (by first | (simp only [putAll, Act.put, la_, lb_, lc_]; done) | (simp only [putAll, Act.put, la_, lb_, lc_]; rfl)) (hJ0_3_4_9 (v164, v167, v170, gb175) _ ⟨hHeld, (by (with_reducible repeat (first | apply qa_ | apply qn_ | apply qd_)); exact HO168.out), (by (with_reducible repeat (first | apply qa_ | apply qn_ | apply qd_)); exact HO171.out), (by first | with_reducible exact BK161.out | with_reducible exact qu_ BK161.out _ | exact BK161.out | exact qw_ BK161.out _), (by first | with_reducible exact BK162.out | with_reducible exact qu_ BK162.out _ | exact BK162.out | exact qw_ BK162.out _), (by first | with_reducible exact BK175.out | with_reducible exact qu_ BK175.out _ | exact BK175.out | exact qw_ BK175.out _), GW175.out, GE175.out, NB161_175.out, NB175_161.out, NB162_175.out, NB175_162.out, (by repeat (first | (with_reducible first | exact HB.out | apply qc_ | apply qx_ | apply qf_ | refine qg_ ?_ GE161.out | refine qg_ ?_ GE162.out | refine qg_ ?_ GE175.out) | exact HB.out))⟩)
      ·skip
       rintro ⟨v164, v167, v170⟩ w12 ⟨hS_, h0_, h1_, h2_, h3_, h4_⟩
       have n0_ : Aside0 (Kd.R Kd.bool 4 w12 w.heap.size (fun _ => True) v167 y166) := ⟨h0_⟩
       have n1_ : Aside0 (Kd.R (Kd.int .i64) 3 w12 w.heap.size (fun _ => True) v170 y169) := ⟨h1_⟩
       have n2_ : Aside0 (w12.heap[gb161]? = some (.cells #[.slice A0_0 l0_0.length c0_0, .slice A0_1 l0_1.length c0_1, .slice A0_2 l0_2.length c0_2] 30 (0, 0))) := ⟨h2_⟩
       have n3_ : Aside0 (w12.heap[gb162]? = some (.cells #[.slice none 0 0, .slice none 0 0, .slice none 0 0] 30 (0, 0))) := ⟨h3_⟩
       have n4_ : Aside0 (Below w.heap.size w w12) := ⟨h4_⟩
       clear BK161
       clear BK162
       clear HB
       clear h0_ h1_ h2_ h3_ h4_
       have HO168 := n0_
       have HO171 := n1_
       have BK161 := n2_
       have BK162 := n3_
       have HB := n4_
       clear n0_ n1_ n2_ n3_ n4_
       have hHeld : w12.cell? ⟨gb161, 0, none⟩ = some (.slice A0_0 l0_0.length c0_0) ∧ w12.cell? ⟨gb161, 1, none⟩ = some (.slice A0_1 l0_1.length c0_1) ∧ w12.cell? ⟨gb161, 2, none⟩ = some (.slice A0_2 l0_2.length c0_2) := hS_
       refine norm_ (a' := ?_) ?_ ?_
       rotate_left
       ·simp only [putAll, Act.put, la_, lb_, lc_]
        rfl
       refine two_ (i := 7) (j := 9) (Ni := some 13) (Nj := some 3) #[true, true, true, true, true, true, true, true, false, false, false] #[true, true, true, true, true, true, true, false, false, true, false] rfl rfl rfl rfl (two_of HT_.out (by kernel_rfl)) (by decide) (by decide) (fun K hK => ?_) (fun K hK => ?_)
       ·skip
        refine Kd.R_append_rows_step (Kd.int .i64) (w0 := w) w.heap.size (by rfl) (.tmp 10) (.tmp 12) 24 3 (.int .i64 0) 8 rfl Try.underlying24 info3 rfl (by decide) (by omega) v170 y169 l0_2 _ _ _ (fun _ => True) (fun _ => False) rfl rfl ?aO ?aR (fun _ _ h => h) (fun _ h => h.elim) ?aF ?aB ?aS ?aL ?_
        (case aR => repeat (first | exact (Kd.C_below HR0_2.out HB.out) | (with_reducible refine Kd.C_alloc ?_ _) | (with_reducible refine Kd.C_drewN ?_ _) | (with_reducible refine Kd.C_drew ?_)))
        (case aB => exact (by repeat (first | (with_reducible first | exact HB.out | apply qc_ | apply qx_ | apply qf_ | refine qg_ ?_ GE161.out | refine qg_ ?_ GE162.out) | exact HB.out)))
        (case aF => exact (fun _ _ => trivial))
        (case aO => exact (by (with_reducible repeat (first | apply qa_ | apply qn_ | apply qd_)); exact HO171.out))
        (case aS => exact (qz_ (by repeat (first | (with_reducible first | exact HB.out | apply qc_ | apply qx_ | apply qf_ | refine qg_ ?_ GE161.out | refine qg_ ?_ GE162.out) | exact HB.out))))
        (case aL => have := LMc3.out; omega)
        intro v173 w13 ho hb hg hat
        rw [← Ny172.out] at ho
        have n0_ := qm_ (blk_grown (g := gb161) (o := .cells #[.slice A0_0 l0_0.length c0_0, .slice A0_1 l0_1.length c0_1, .slice A0_2 l0_2.length c0_2] 30 (0, 0)) (by first | with_reducible exact BK161.out | with_reducible exact qu_ BK161.out _ | exact BK161.out | exact qw_ BK161.out _) hg (Kd.R_ne HO171.out BK161.out (by decide)))
        have n1_ := qm_ (blk_grown (g := gb162) (o := .cells #[.slice none 0 0, .slice none 0 0, .slice none 0 0] 30 (0, 0)) (by first | with_reducible exact BK162.out | with_reducible exact qu_ BK162.out _ | exact BK162.out | exact qw_ BK162.out _) hg (Kd.R_ne HO171.out BK162.out (by decide)))
        have n2_ := qm_ (Kd.R_over' (by (with_reducible repeat (first | apply qa_ | apply qn_ | apply qd_)); exact HO168.out) (Kd.R_typed (by (with_reducible repeat (first | apply qa_ | apply qn_ | apply qd_)); exact HO171.out)) (by decide) hg)
        have n3_ := qm_ (hb)
        have n4_ := qm_ (ho)
        clear BK161
        clear BK162
        clear HO168
        clear HB
        clear HO171
        have BK161 := n0_
        have BK162 := n1_
        have HO168 := n2_
        have HB := n3_
        have HO174 := n4_
        clear n0_ n1_ n2_ n3_ n4_
        clear ho hb hg hat
        obtain ⟨Ao14, co14, eo14⟩ := Kd.R_slice HO174.out
        (first | subst eo14 | (injection eo14 with f1_ f2_ f3_; have f4_ := f1_.symm; have f5_ := f3_.symm; clear f1_ f2_ f3_; subst f4_; subst f5_))
        obtain ⟨Ao15, co15, eo15⟩ := Kd.R_slice HO168.out
        (first | subst eo15 | (injection eo15 with f1_ f2_ f3_; have f4_ := f1_.symm; have f5_ := f3_.symm; clear f1_ f2_ f3_; subst f4_; subst f5_))
        refine hK.out _ _ ⟨(blk_cell BK161.out 0).trans rfl, (blk_cell BK161.out 1).trans rfl, (blk_cell BK161.out 2).trans rfl⟩ (fun hHeld => ?_)
        clear hK K
        refine norm_ (a' := ?_) ?_ ?_
        rotate_left
        ·show Act.put _ (some 13) _ = _
         simp only [Act.put, la_, lb_, lc_, i64_w, i32_w]
         rfl
        refine pure_ (i := 8) (N := some 14) (v := ?_) (a' := ?_) #[true, true, true, true, true, true, true, true, true, false, false] rfl rfl (any_of HT_.out (by kernel_rfl)) (fun _ _ _ h => h) (Or.inl ⟨by rfl, ?_⟩) ?_ ?_
        rotate_left
        ·intro w'
         go_simp
         with_reducible rfl
        rotate_left
        ·simp only [Act.put, la_, lb_, lc_, i64_w, i32_w]
         rfl
        exact norm_ (by first | (simp only [putAll, Act.put, la_, lb_, lc_]; done) | (simp only [putAll, Act.put, la_, lb_, lc_]; rfl)) (hJ0_3_4_7 (v164, .slice Ao15 y166.length co15, v170, .slice Ao14 y172.length co14) _ ⟨hHeld, (by (with_reducible repeat (first | apply qa_ | apply qn_ | apply qd_)); exact HO168.out), (by (with_reducible repeat (first | apply qa_ | apply qn_ | apply qd_)); exact HO174.out), (by first | with_reducible exact BK161.out | with_reducible exact qu_ BK161.out _ | exact BK161.out | exact qw_ BK161.out _), (by first | with_reducible exact BK162.out | with_reducible exact qu_ BK162.out _ | exact BK162.out | exact qw_ BK162.out _), (by repeat (first | (with_reducible first | exact HB.out | apply qc_ | apply qx_ | apply qf_ | refine qg_ ?_ GE161.out | refine qg_ ?_ GE162.out) | exact HB.out))⟩)
       ·skip
        refine box_step ?hg (N := 3) ?hd (cs := #[.slice none 0 0, .slice none 0 0, .slice none 0 0]) (t := 30) ?hr ?_; (case hd => rfl); (case hg => rfl); (case hr => first | (go_simp; done) | (go_simp; rfl))
        intro gb175 hg w13 hbox hb
        have n0_ := qm_ (qb_ (by (with_reducible repeat (first | apply qa_ | apply qn_ | apply qd_)); exact HO168.out) hb)
        have n1_ := qm_ (qb_ (by (with_reducible repeat (first | apply qa_ | apply qn_ | apply qd_)); exact HO171.out) hb)
        have n2_ := qm_ (qs_ (g := gb161) (o := .cells #[.slice A0_0 l0_0.length c0_0, .slice A0_1 l0_1.length c0_1, .slice A0_2 l0_2.length c0_2] 30 (0, 0)) (by first | with_reducible exact BK161.out | with_reducible exact qu_ BK161.out _ | exact BK161.out | exact qw_ BK161.out _) hb)
        have n3_ := qm_ (qs_ (g := gb162) (o := .cells #[.slice none 0 0, .slice none 0 0, .slice none 0 0] 30 (0, 0)) (by first | with_reducible exact BK162.out | with_reducible exact qu_ BK162.out _ | exact BK162.out | exact qw_ BK162.out _) hb)
        have n4_ := qm_ (qh_ (by repeat (first | (with_reducible first | exact HB.out | apply qc_ | apply qx_ | apply qf_ | refine qg_ ?_ GE161.out | refine qg_ ?_ GE162.out) | exact HB.out)) hb)
        have n5_ := qm_ (hbox)
        have n6_ := qm_ ((by rw [hg]; exact (qz_ (by repeat (first | (with_reducible first | exact HB.out | apply qc_ | apply qx_ | apply qf_ | refine qg_ ?_ GE161.out | refine qg_ ?_ GE162.out) | exact HB.out))) : w.heap.size ≤ gb175))
        have n7_ := qm_ ((by rw [hg]; exact (qz_ (by repeat (first | (with_reducible first | exact HB.out | apply qc_ | apply qx_ | apply qf_ | refine qg_ ?_ GE161.out | refine qg_ ?_ GE162.out) | exact HB.out))) : w.heap.size ≤ gb175))
        have n8_ := qm_ ((by rw [hg]; exact Nat.ne_of_lt (blk_lt (g := gb161) (o := .cells #[.slice A0_0 l0_0.length c0_0, .slice A0_1 l0_1.length c0_1, .slice A0_2 l0_2.length c0_2] 30 (0, 0)) (by first | with_reducible exact BK161.out | with_reducible exact qu_ BK161.out _ | exact BK161.out | exact qw_ BK161.out _)) : gb161 ≠ gb175))
        have n9_ := qm_ ((by rw [hg]; exact Nat.ne_of_gt (blk_lt (g := gb161) (o := .cells #[.slice A0_0 l0_0.length c0_0, .slice A0_1 l0_1.length c0_1, .slice A0_2 l0_2.length c0_2] 30 (0, 0)) (by first | with_reducible exact BK161.out | with_reducible exact qu_ BK161.out _ | exact BK161.out | exact qw_ BK161.out _)) : gb175 ≠ gb161))
        have n10_ := qm_ ((by rw [hg]; exact Nat.ne_of_lt (blk_lt (g := gb162) (o := .cells #[.slice none 0 0, .slice none 0 0, .slice none 0 0] 30 (0, 0)) (by first | with_reducible exact BK162.out | with_reducible exact qu_ BK162.out _ | exact BK162.out | exact qw_ BK162.out _)) : gb162 ≠ gb175))
        have n11_ := qm_ ((by rw [hg]; exact Nat.ne_of_gt (blk_lt (g := gb162) (o := .cells #[.slice none 0 0, .slice none 0 0, .slice none 0 0] 30 (0, 0)) (by first | with_reducible exact BK162.out | with_reducible exact qu_ BK162.out _ | exact BK162.out | exact qw_ BK162.out _)) : gb175 ≠ gb162))
        clear HO168
        clear HO171
        clear BK161
        clear BK162
        clear HB
        have HO168 := n0_
        have HO171 := n1_
        have BK161 := n2_
        have BK162 := n3_
        have HB := n4_
        have BK175 := n5_
        have GW175 := n6_
        have GE175 := n7_
        have NB161_175 := n8_
        have NB175_161 := n9_
        have NB162_175 := n10_
        have NB175_162 := n11_
        clear n0_ n1_ n2_ n3_ n4_ n5_ n6_ n7_ n8_ n9_ n10_ n11_
        clear hb hbox hg
        refine hK.out _ _ ⟨(blk_cell BK161.out 0).trans rfl, (blk_cell BK161.out 1).trans rfl, (blk_cell BK161.out 2).trans rfl⟩ (fun hHeld => ?_)
        clear hK K
        refine norm_ (a' := ?_) ?_ ?_
        rotate_left
        ·show Act.put _ (some 3) _ = _
         simp only [Act.put, la_, lb_, lc_, i64_w, i32_w]
         rfl
        exact norm_ (by first | (simp only [putAll, Act.put, la_, lb_, lc_]; done) | (simp only [putAll, Act.put, la_, lb_, lc_]; rfl)) (hJ0_3_4_9 (v164, v167, v170, gb175) _ ⟨hHeld, (by (with_reducible repeat (first | apply qa_ | apply qn_ | apply qd_)); exact HO168.out), (by (with_reducible repeat (first | apply qa_ | apply qn_ | apply qd_)); exact HO171.out), (by first | with_reducible exact BK161.out | with_reducible exact qu_ BK161.out _ | exact BK161.out | exact qw_ BK161.out _), (by first | with_reducible exact BK162.out | with_reducible exact qu_ BK162.out _ | exact BK162.out | exact qw_ BK162.out _), (by first | with_reducible exact BK175.out | with_reducible exact qu_ BK175.out _ | exact BK175.out | exact qw_ BK175.out _), GW175.out, GE175.out, NB161_175.out, NB175_161.out, NB162_175.out, NB175_162.out, (by repeat (first | (with_reducible first | exact HB.out | apply qc_ | apply qx_ | apply qf_ | refine qg_ ?_ GE161.out | refine qg_ ?_ GE162.out | refine qg_ ?_ GE175.out) | exact HB.out))⟩)
     ·skip
      rintro ⟨v164, v167, v170, gb175⟩ w13 ⟨hS_, h0_, h1_, h2_, h3_, h4_, h5_, h6_, h7_, h8_, h9_, h10_, h11_⟩
      have n0_ : Aside0 (Kd.R Kd.bool 4 w13 w.heap.size (fun _ => True) v167 y166) := ⟨h0_⟩
      have n1_ : Aside0 (Kd.R (Kd.int .i64) 3 w13 w.heap.size (fun _ => True) v170 y169) := ⟨h1_⟩
      have n2_ : Aside0 (w13.heap[gb161]? = some (.cells #[.slice A0_0 l0_0.length c0_0, .slice A0_1 l0_1.length c0_1, .slice A0_2 l0_2.length c0_2] 30 (0, 0))) := ⟨h2_⟩
      have n3_ : Aside0 (w13.heap[gb162]? = some (.cells #[.slice none 0 0, .slice none 0 0, .slice none 0 0] 30 (0, 0))) := ⟨h3_⟩
      have n4_ : Aside0 (w13.heap[gb175]? = some (.cells #[.slice none 0 0, .slice none 0 0, .slice none 0 0] 30 (0, 0))) := ⟨h4_⟩
      have n5_ : Aside0 (w.heap.size ≤ gb175) := ⟨h5_⟩
      have n6_ : Aside0 (w.heap.size ≤ gb175) := ⟨h6_⟩
      have n7_ : Aside0 (gb161 ≠ gb175) := ⟨h7_⟩
      have n8_ : Aside0 (gb175 ≠ gb161) := ⟨h8_⟩
      have n9_ : Aside0 (gb162 ≠ gb175) := ⟨h9_⟩
      have n10_ : Aside0 (gb175 ≠ gb162) := ⟨h10_⟩
      have n11_ : Aside0 (Below w.heap.size w w13) := ⟨h11_⟩
      clear BK161
      clear BK162
      clear HB
      clear h0_ h1_ h2_ h3_ h4_ h5_ h6_ h7_ h8_ h9_ h10_ h11_
      have HO168 := n0_
      have HO171 := n1_
      have BK161 := n2_
      have BK162 := n3_
      have BK175 := n4_
      have GW175 := n5_
      have GE175 := n6_
      have NB161_175 := n7_
      have NB175_161 := n8_
      have NB162_175 := n9_
      have NB175_162 := n10_
      have HB := n11_
      clear n0_ n1_ n2_ n3_ n4_ n5_ n6_ n7_ n8_ n9_ n10_ n11_
      have hHeld : w13.cell? ⟨gb161, 0, none⟩ = some (.slice A0_0 l0_0.length c0_0) ∧ w13.cell? ⟨gb161, 1, none⟩ = some (.slice A0_1 l0_1.length c0_1) ∧ w13.cell? ⟨gb161, 2, none⟩ = some (.slice A0_2 l0_2.length c0_2) := hS_
      refine norm_ (a' := ?_) ?_ ?_
      rotate_left
      ·simp only [putAll, Act.put, la_, lb_, lc_]
       rfl
      refine one_ (i := 7) (N := some 13) #[true, true, true, true, true, true, true, true, false, true, false] rfl rfl (one_of HT_.out (by kernel_rfl)) (by decide) (fun K hK => ?_)
      refine Kd.R_append_rows_step (Kd.int .i64) (w0 := w) w.heap.size (by rfl) (.tmp 10) (.tmp 12) 24 3 (.int .i64 0) 8 rfl Try.underlying24 info3 rfl (by decide) (by omega) v170 y169 l0_2 _ _ _ (fun _ => True) (fun _ => False) rfl rfl ?aO ?aR (fun _ _ h => h) (fun _ h => h.elim) ?aF ?aB ?aS ?aL ?_
      (case aR => repeat (first | exact (Kd.C_below HR0_2.out HB.out) | (with_reducible refine Kd.C_alloc ?_ _) | (with_reducible refine Kd.C_drewN ?_ _) | (with_reducible refine Kd.C_drew ?_)))
      (case aB => exact (by repeat (first | (with_reducible first | exact HB.out | apply qc_ | apply qx_ | apply qf_ | refine qg_ ?_ GE161.out | refine qg_ ?_ GE162.out | refine qg_ ?_ GE175.out) | exact HB.out)))
      (case aF => exact (fun _ _ => trivial))
      (case aO => exact (by (with_reducible repeat (first | apply qa_ | apply qn_ | apply qd_)); exact HO171.out))
      (case aS => exact (qz_ (by repeat (first | (with_reducible first | exact HB.out | apply qc_ | apply qx_ | apply qf_ | refine qg_ ?_ GE161.out | refine qg_ ?_ GE162.out | refine qg_ ?_ GE175.out) | exact HB.out))))
      (case aL => have := LMc3.out; omega)
      intro v173 w14 ho hb hg hat
      rw [← Ny172.out] at ho
      have n0_ := qm_ (blk_grown (g := gb161) (o := .cells #[.slice A0_0 l0_0.length c0_0, .slice A0_1 l0_1.length c0_1, .slice A0_2 l0_2.length c0_2] 30 (0, 0)) (by first | with_reducible exact BK161.out | with_reducible exact qu_ BK161.out _ | exact BK161.out | exact qw_ BK161.out _) hg (Kd.R_ne HO171.out BK161.out (by decide)))
      have n1_ := qm_ (blk_grown (g := gb162) (o := .cells #[.slice none 0 0, .slice none 0 0, .slice none 0 0] 30 (0, 0)) (by first | with_reducible exact BK162.out | with_reducible exact qu_ BK162.out _ | exact BK162.out | exact qw_ BK162.out _) hg (Kd.R_ne HO171.out BK162.out (by decide)))
      have n2_ := qm_ (Kd.R_over' (by (with_reducible repeat (first | apply qa_ | apply qn_ | apply qd_)); exact HO168.out) (Kd.R_typed (by (with_reducible repeat (first | apply qa_ | apply qn_ | apply qd_)); exact HO171.out)) (by decide) hg)
      have n3_ := qm_ (blk_grown (g := gb175) (o := .cells #[.slice none 0 0, .slice none 0 0, .slice none 0 0] 30 (0, 0)) (by first | with_reducible exact BK175.out | with_reducible exact qu_ BK175.out _ | exact BK175.out | exact qw_ BK175.out _) hg (Kd.R_ne HO171.out BK175.out (by decide)))
      have n4_ := qm_ (hb)
      have n5_ := qm_ (ho)
      clear BK161
      clear BK162
      clear HO168
      clear BK175
      clear HB
      clear HO171
      have BK161 := n0_
      have BK162 := n1_
      have HO168 := n2_
      have BK175 := n3_
      have HB := n4_
      have HO174 := n5_
      clear n0_ n1_ n2_ n3_ n4_ n5_
      clear ho hb hg hat
      obtain ⟨Ao15, co15, eo15⟩ := Kd.R_slice HO174.out
      (first | subst eo15 | (injection eo15 with f1_ f2_ f3_; have f4_ := f1_.symm; have f5_ := f3_.symm; clear f1_ f2_ f3_; subst f4_; subst f5_))
      obtain ⟨Ao16, co16, eo16⟩ := Kd.R_slice HO168.out
      (first | subst eo16 | (injection eo16 with f1_ f2_ f3_; have f4_ := f1_.symm; have f5_ := f3_.symm; clear f1_ f2_ f3_; subst f4_; subst f5_))
      refine hK.out _ _ ⟨(blk_cell BK161.out 0).trans rfl, (blk_cell BK161.out 1).trans rfl, (blk_cell BK161.out 2).trans rfl⟩ (fun hHeld => ?_)
      clear hK K
      refine norm_ (a' := ?_) ?_ ?_
      rotate_left
      ·show Act.put _ (some 13) _ = _
       simp only [Act.put, la_, lb_, lc_, i64_w, i32_w]
       rfl
      refine pure_ (i := 8) (N := some 14) (v := ?_) (a' := ?_) #[true, true, true, true, true, true, true, true, true, true, false] rfl rfl (any_of HT_.out (by kernel_rfl)) (fun _ _ _ h => h) (Or.inl ⟨by rfl, ?_⟩) ?_ ?_
      rotate_left
      ·intro w'
       go_simp
       with_reducible rfl
      rotate_left
      ·simp only [Act.put, la_, lb_, lc_, i64_w, i32_w]
       rfl
      exact norm_ (by first | (simp only [putAll, Act.put, la_, lb_, lc_]; done) | (simp only [putAll, Act.put, la_, lb_, lc_]; rfl)) (hJ0_3_4_7_9 (v164, .slice Ao16 y166.length co16, v170, .slice Ao15 y172.length co15, gb175) _ ⟨hHeld, (by (with_reducible repeat (first | apply qa_ | apply qn_ | apply qd_)); exact HO168.out), (by (with_reducible repeat (first | apply qa_ | apply qn_ | apply qd_)); exact HO174.out), (by first | with_reducible exact BK161.out | with_reducible exact qu_ BK161.out _ | exact BK161.out | exact qw_ BK161.out _), (by first | with_reducible exact BK162.out | with_reducible exact qu_ BK162.out _ | exact BK162.out | exact qw_ BK162.out _), (by first | with_reducible exact BK175.out | with_reducible exact qu_ BK175.out _ | exact BK175.out | exact qw_ BK175.out _), GW175.out, GE175.out, NB161_175.out, NB175_161.out, NB162_175.out, NB175_162.out, (by repeat (first | (with_reducible first | exact HB.out | apply qc_ | apply qx_ | apply qf_ | refine qg_ ?_ GE161.out | refine qg_ ?_ GE162.out | refine qg_ ?_ GE175.out) | exact HB.out))⟩)
    ·skip
     rintro ⟨v164, v167, v170, v173⟩ w15 ⟨hS_, h0_, h1_, h2_, h3_, h4_⟩
     have n0_ : Aside0 (Kd.R Kd.bool 4 w15 w.heap.size (fun _ => True) v167 y166) := ⟨h0_⟩
     have n1_ : Aside0 (Kd.R (Kd.int .i64) 3 w15 w.heap.size (fun _ => True) v173 y172) := ⟨h1_⟩
     have n2_ : Aside0 (w15.heap[gb161]? = some (.cells #[.slice A0_0 l0_0.length c0_0, .slice A0_1 l0_1.length c0_1, .slice A0_2 l0_2.length c0_2] 30 (0, 0))) := ⟨h2_⟩
     have n3_ : Aside0 (w15.heap[gb162]? = some (.cells #[.slice none 0 0, .slice none 0 0, .slice none 0 0] 30 (0, 0))) := ⟨h3_⟩
     have n4_ : Aside0 (Below w.heap.size w w15) := ⟨h4_⟩
     clear BK161
     clear BK162
     clear HB
     clear h0_ h1_ h2_ h3_ h4_
     have HO168 := n0_
     have HO174 := n1_
     have BK161 := n2_
     have BK162 := n3_
     have HB := n4_
     clear n0_ n1_ n2_ n3_ n4_
     have hHeld : w15.cell? ⟨gb161, 0, none⟩ = some (.slice A0_0 l0_0.length c0_0) ∧ w15.cell? ⟨gb161, 1, none⟩ = some (.slice A0_1 l0_1.length c0_1) ∧ w15.cell? ⟨gb161, 2, none⟩ = some (.slice A0_2 l0_2.length c0_2) := hS_
     obtain ⟨Ao16, co16, eo16⟩ := Kd.R_slice HO174.out
     (first | subst eo16 | (injection eo16 with f1_ f2_ f3_; have f4_ := f1_.symm; have f5_ := f3_.symm; clear f1_ f2_ f3_; subst f4_; subst f5_))
     obtain ⟨Ao17, co17, eo17⟩ := Kd.R_slice HO168.out
     (first | subst eo17 | (injection eo17 with f1_ f2_ f3_; have f4_ := f1_.symm; have f5_ := f3_.symm; clear f1_ f2_ f3_; subst f4_; subst f5_))
     refine norm_ (a' := ?_) ?_ ?_
     rotate_left
     ·simp only [putAll, Act.put, la_, lb_, lc_]
      rfl
     refine one_ (i := 9) (N := some 3) #[true, true, true, true, true, true, true, true, true, true, false] rfl rfl (one_of HT_.out (by kernel_rfl)) (by decide) (fun K hK => ?_)
     refine box_step ?hg (N := 3) ?hd (cs := #[.slice none 0 0, .slice none 0 0, .slice none 0 0]) (t := 30) ?hr ?_; (case hd => rfl); (case hg => rfl); (case hr => first | (go_simp; done) | (go_simp; rfl))
     intro gb175 hg w18 hbox hb
     have n0_ := qm_ (qb_ (by (with_reducible repeat (first | apply qa_ | apply qn_ | apply qd_)); exact HO168.out) hb)
     have n1_ := qm_ (qb_ (by (with_reducible repeat (first | apply qa_ | apply qn_ | apply qd_)); exact HO174.out) hb)
     have n2_ := qm_ (qs_ (g := gb161) (o := .cells #[.slice A0_0 l0_0.length c0_0, .slice A0_1 l0_1.length c0_1, .slice A0_2 l0_2.length c0_2] 30 (0, 0)) (by first | with_reducible exact BK161.out | with_reducible exact qu_ BK161.out _ | exact BK161.out | exact qw_ BK161.out _) hb)
     have n3_ := qm_ (qs_ (g := gb162) (o := .cells #[.slice none 0 0, .slice none 0 0, .slice none 0 0] 30 (0, 0)) (by first | with_reducible exact BK162.out | with_reducible exact qu_ BK162.out _ | exact BK162.out | exact qw_ BK162.out _) hb)
     have n4_ := qm_ (qh_ (by repeat (first | (with_reducible first | exact HB.out | apply qc_ | apply qx_ | apply qf_ | refine qg_ ?_ GE161.out | refine qg_ ?_ GE162.out) | exact HB.out)) hb)
     have n5_ := qm_ (hbox)
     have n6_ := qm_ ((by rw [hg]; exact (qz_ (by repeat (first | (with_reducible first | exact HB.out | apply qc_ | apply qx_ | apply qf_ | refine qg_ ?_ GE161.out | refine qg_ ?_ GE162.out) | exact HB.out))) : w.heap.size ≤ gb175))
     have n7_ := qm_ ((by rw [hg]; exact (qz_ (by repeat (first | (with_reducible first | exact HB.out | apply qc_ | apply qx_ | apply qf_ | refine qg_ ?_ GE161.out | refine qg_ ?_ GE162.out) | exact HB.out))) : w.heap.size ≤ gb175))
     have n8_ := qm_ ((by rw [hg]; exact Nat.ne_of_lt (blk_lt (g := gb161) (o := .cells #[.slice A0_0 l0_0.length c0_0, .slice A0_1 l0_1.length c0_1, .slice A0_2 l0_2.length c0_2] 30 (0, 0)) (by first | with_reducible exact BK161.out | with_reducible exact qu_ BK161.out _ | exact BK161.out | exact qw_ BK161.out _)) : gb161 ≠ gb175))
     have n9_ := qm_ ((by rw [hg]; exact Nat.ne_of_gt (blk_lt (g := gb161) (o := .cells #[.slice A0_0 l0_0.length c0_0, .slice A0_1 l0_1.length c0_1, .slice A0_2 l0_2.length c0_2] 30 (0, 0)) (by first | with_reducible exact BK161.out | with_reducible exact qu_ BK161.out _ | exact BK161.out | exact qw_ BK161.out _)) : gb175 ≠ gb161))
     have n10_ := qm_ ((by rw [hg]; exact Nat.ne_of_lt (blk_lt (g := gb162) (o := .cells #[.slice none 0 0, .slice none 0 0, .slice none 0 0] 30 (0, 0)) (by first | with_reducible exact BK162.out | with_reducible exact qu_ BK162.out _ | exact BK162.out | exact qw_ BK162.out _)) : gb162 ≠ gb175))
     have n11_ := qm_ ((by rw [hg]; exact Nat.ne_of_gt (blk_lt (g := gb162) (o := .cells #[.slice none 0 0, .slice none 0 0, .slice none 0 0] 30 (0, 0)) (by first | with_reducible exact BK162.out | with_reducible exact qu_ BK162.out _ | exact BK162.out | exact qw_ BK162.out _)) : gb175 ≠ gb162))
     clear HO168
     clear HO174
     clear BK161
     clear BK162
     clear HB
     have HO168 := n0_
     have HO174 := n1_
     have BK161 := n2_
     have BK162 := n3_
     have HB := n4_
     have BK175 := n5_
     have GW175 := n6_
     have GE175 := n7_
     have NB161_175 := n8_
     have NB175_161 := n9_
     have NB162_175 := n10_
     have NB175_162 := n11_
     clear n0_ n1_ n2_ n3_ n4_ n5_ n6_ n7_ n8_ n9_ n10_ n11_
     clear hb hbox hg
     refine hK.out _ _ ⟨(blk_cell BK161.out 0).trans rfl, (blk_cell BK161.out 1).trans rfl, (blk_cell BK161.out 2).trans rfl⟩ (fun hHeld => ?_)
     clear hK K
     refine norm_ (a' := ?_) ?_ ?_
     rotate_left
     ·show Act.put _ (some 3) _ = _
      simp only [Act.put, la_, lb_, lc_, i64_w, i32_w]
      rfl
     exact norm_ (by first | (simp only [putAll, Act.put, la_, lb_, lc_]; done) | (simp only [putAll, Act.put, la_, lb_, lc_]; rfl)) (hJ0_3_4_7_9 (v164, .slice Ao17 y166.length co17, v170, .slice Ao16 y172.length co16, gb175) _ ⟨hHeld, (by (with_reducible repeat (first | apply qa_ | apply qn_ | apply qd_)); exact HO168.out), (by (with_reducible repeat (first | apply qa_ | apply qn_ | apply qd_)); exact HO174.out), (by first | with_reducible exact BK161.out | with_reducible exact qu_ BK161.out _ | exact BK161.out | exact qw_ BK161.out _), (by first | with_reducible exact BK162.out | with_reducible exact qu_ BK162.out _ | exact BK162.out | exact qw_ BK162.out _), (by first | with_reducible exact BK175.out | with_reducible exact qu_ BK175.out _ | exact BK175.out | exact qw_ BK175.out _), GW175.out, GE175.out, NB161_175.out, NB175_161.out, NB162_175.out, NB175_162.out, (by repeat (first | (with_reducible first | exact HB.out | apply qc_ | apply qx_ | apply qf_ | refine qg_ ?_ GE161.out | refine qg_ ?_ GE162.out | refine qg_ ?_ GE175.out) | exact HB.out))⟩)
   rintro ⟨v164, v167, v170, v173, gb175⟩ w16 ⟨hS_, h0_, h1_, h2_, h3_, h4_, h5_, h6_, h7_, h8_, h9_, h10_, h11_⟩
   have n0_ : Aside0 (Kd.R Kd.bool 4 w16 w.heap.size (fun _ => True) v167 y166) := ⟨h0_⟩
   have n1_ : Aside0 (Kd.R (Kd.int .i64) 3 w16 w.heap.size (fun _ => True) v173 y172) := ⟨h1_⟩
   have n2_ : Aside0 (w16.heap[gb161]? = some (.cells #[.slice A0_0 l0_0.length c0_0, .slice A0_1 l0_1.length c0_1, .slice A0_2 l0_2.length c0_2] 30 (0, 0))) := ⟨h2_⟩
   have n3_ : Aside0 (w16.heap[gb162]? = some (.cells #[.slice none 0 0, .slice none 0 0, .slice none 0 0] 30 (0, 0))) := ⟨h3_⟩
   have n4_ : Aside0 (w16.heap[gb175]? = some (.cells #[.slice none 0 0, .slice none 0 0, .slice none 0 0] 30 (0, 0))) := ⟨h4_⟩
   have n5_ : Aside0 (w.heap.size ≤ gb175) := ⟨h5_⟩
   have n6_ : Aside0 (w.heap.size ≤ gb175) := ⟨h6_⟩
   have n7_ : Aside0 (gb161 ≠ gb175) := ⟨h7_⟩
   have n8_ : Aside0 (gb175 ≠ gb161) := ⟨h8_⟩
   have n9_ : Aside0 (gb162 ≠ gb175) := ⟨h9_⟩
   have n10_ : Aside0 (gb175 ≠ gb162) := ⟨h10_⟩
   have n11_ : Aside0 (Below w.heap.size w w16) := ⟨h11_⟩
   clear BK161
   clear BK162
   clear HB
   clear h0_ h1_ h2_ h3_ h4_ h5_ h6_ h7_ h8_ h9_ h10_ h11_
   have HO168 := n0_
   have HO174 := n1_
   have BK161 := n2_
   have BK162 := n3_
   have BK175 := n4_
   have GW175 := n5_
   have GE175 := n6_
   have NB161_175 := n7_
   have NB175_161 := n8_
   have NB162_175 := n9_
   have NB175_162 := n10_
   have HB := n11_
   clear n0_ n1_ n2_ n3_ n4_ n5_ n6_ n7_ n8_ n9_ n10_ n11_
   have hHeld : w16.cell? ⟨gb161, 0, none⟩ = some (.slice A0_0 l0_0.length c0_0) ∧ w16.cell? ⟨gb161, 1, none⟩ = some (.slice A0_1 l0_1.length c0_1) ∧ w16.cell? ⟨gb161, 2, none⟩ = some (.slice A0_2 l0_2.length c0_2) := hS_
   obtain ⟨Ao17, co17, eo17⟩ := Kd.R_slice HO174.out
   (first | subst eo17 | (injection eo17 with f1_ f2_ f3_; have f4_ := f1_.symm; have f5_ := f3_.symm; clear f1_ f2_ f3_; subst f4_; subst f5_))
   obtain ⟨Ao18, co18, eo18⟩ := Kd.R_slice HO168.out
   (first | subst eo18 | (injection eo18 with f1_ f2_ f3_; have f4_ := f1_.symm; have f5_ := f3_.symm; clear f1_ f2_ f3_; subst f4_; subst f5_))
   refine norm_ (a' := ?_) ?_ ?_
   rotate_left
   ·simp only [putAll, Act.put, la_, lb_, lc_]
    rfl
   refine one_ (i := 10) (N := none) #[true, true, true, true, true, true, true, true, true, true, true] rfl rfl (one_of HT_.out (by kernel_rfl)) (by decide) (fun K hK => ?_)
   have hs19 : w16.cell? ⟨gb175, 0, none⟩ = some (.slice none 0 0) := (blk_cell BK175.out 0).trans rfl
   have hfs19 := blk_frozen BK175.out 0
   have hns19_0 := NB161_175.out
   have hns19_1 := NB162_175.out
   have hms19_0 := NB175_161.out
   have hms19_1 := NB175_162.out
   have hs20 : w16.cell? ⟨gb175, 1, none⟩ = some (.slice none 0 0) := (blk_cell BK175.out 1).trans rfl
   have hfs20 := blk_frozen BK175.out 1
   have hns20_0 := NB161_175.out
   have hns20_1 := NB162_175.out
   have hms20_0 := NB175_161.out
   have hms20_1 := NB175_162.out
   have hs21 : w16.cell? ⟨gb175, 2, none⟩ = some (.slice none 0 0) := (blk_cell BK175.out 2).trans rfl
   have hfs21 := blk_frozen BK175.out 2
   have hns21_0 := NB161_175.out
   have hns21_1 := NB162_175.out
   have hms21_0 := NB175_161.out
   have hms21_1 := NB175_162.out
   refine skip_ (w1 := ?_) (by rfl) rfl ?_ ?_
   rotate_left
   ·go_simp
    rfl
   refine hK.out _ _ ⟨((cell_far (p := ⟨gb175, _, none⟩) NB161_175.out _).trans (((cell_far (p := ⟨gb175, _, none⟩) NB161_175.out _).trans (((cell_far (p := ⟨gb175, _, none⟩) NB161_175.out _).trans (hHeld.1)))))), ((cell_far (p := ⟨gb175, _, none⟩) NB161_175.out _).trans (((cell_far (p := ⟨gb175, _, none⟩) NB161_175.out _).trans (((cell_far (p := ⟨gb175, _, none⟩) NB161_175.out _).trans (hHeld.2.1)))))), ((cell_far (p := ⟨gb175, _, none⟩) NB161_175.out _).trans (((cell_far (p := ⟨gb175, _, none⟩) NB161_175.out _).trans (((cell_far (p := ⟨gb175, _, none⟩) NB161_175.out _).trans (hHeld.2.2))))))⟩ (fun hHeld => ?_)
   clear hK K
   refine done_ (done_of HT_.out (by kernel_rfl)) ?_
   have hnb22 := NB161_162.out
   have hnc22 := NB162_161.out
   have hnb23 := NB161_175.out
   have hnc23 := NB175_161.out
   have hcz24_0 : w16.cell? ⟨gb161, 0, none⟩ = some (.slice A0_0 l0_0.length c0_0) := (blk_cell BK161.out 0).trans rfl
   have hcz24_1 : w16.cell? ⟨gb161, 1, none⟩ = some (.slice A0_1 l0_1.length c0_1) := (blk_cell BK161.out 1).trans rfl
   have hcz24_2 : w16.cell? ⟨gb161, 2, none⟩ = some (.slice A0_2 l0_2.length c0_2) := (blk_cell BK161.out 2).trans rfl
   have hfz24_0 := blk_frozen BK161.out 0
   have hfz24_1 := blk_frozen BK161.out 1
   have hfz24_2 := blk_frozen BK161.out 2
   try go_wp2
   go_loopg [18] k (fun kq v18 w' => ∃ (x18_1 : Int) (x176000_1 : List (List Int)) (u176000 : Value), v18 = .int .i64 x18_1 ∧ Aside0 (spec_l5Own.l0 kq l0_0 (l0_0.length : Int) x18_1 x176000_1 y166 y172 = some (r1, r2, r3)) ∧ Aside0 (kq ≤ k) ∧ Aside0 (Kd.S (Kd.slice 3 (Kd.int .i64)) 24 w' w.heap.size (fun k_ => some k_ ≠ ((.slice Ao17 y172.length co17) : Value).ownBlock) u176000 x176000_1) ∧ Aside0 (Kd.R Kd.bool 4 w' w.heap.size (fun _ => True) (.slice Ao18 y166.length co18) y166) ∧ Aside0 (Kd.R (Kd.int .i64) 3 w' w.heap.size (fun _ => True) (.slice Ao17 y172.length co17) y172) ∧ Aside0 (w'.heap[gb161]? = some (.cells #[(.slice A0_0 l0_0.length c0_0), (.slice A0_1 l0_1.length c0_1), (.slice A0_2 l0_2.length c0_2)] 30 (0, 0))) ∧ Aside0 (w'.heap[gb162]? = some (.cells #[(.slice none 0 0), (.slice none 0 0), (.slice none 0 0)] 30 (0, 0))) ∧ Aside0 (w'.heap[gb175]? = some (.cells #[u176000, (.slice Ao18 y166.length co18), (.slice Ao17 y172.length co17)] 30 (0, 0))) ∧ Aside0 (Below w.heap.size w w'))
   case atStart => exact ⟨(0), (([] : List (List Int))), (.slice none 0 0), (by first | rfl | (simp; done) | (simp [*]; done)), H', ⟨Nat.le_refl _⟩, ⟨by first | exact Kd.S_nil _ _ _ _ _ | exact Kd.N_nil _ _ _ _ _ | exact Kd.V_nil _ _ _ _ _ | exact Kd.Q_nil _ _ _ _ _ | exact Kd.R_nil _ _ _ _ _⟩, ⟨by (with_reducible repeat (first | apply qa_ | apply qn_ | apply qd_)); exact Kd.R_mono (Kd.R_far (p := ⟨gb175, 2, none⟩) (Kd.R_far (p := ⟨gb175, 1, none⟩) (Kd.R_far (p := ⟨gb175, 0, none⟩) (Kd.R_types HO168.out BK175.out (by decide)) (fun _ hk => hk.2) (.slice none 0 0)) (fun _ hk => hk.2) (.slice Ao18 y166.length co18)) (fun _ hk => hk.2) (.slice Ao17 y172.length co17)) (fun _ hk => trivial)⟩, ⟨by (with_reducible repeat (first | apply qa_ | apply qn_ | apply qd_)); exact Kd.R_mono (Kd.R_far (p := ⟨gb175, 2, none⟩) (Kd.R_far (p := ⟨gb175, 1, none⟩) (Kd.R_far (p := ⟨gb175, 0, none⟩) (Kd.R_types HO174.out BK175.out (by decide)) (fun _ hk => hk.2) (.slice none 0 0)) (fun _ hk => hk.2) (.slice Ao18 y166.length co18)) (fun _ hk => hk.2) (.slice Ao17 y172.length co17)) (fun _ hk => trivial)⟩, ⟨by (with_reducible repeat (first | refine qu_ ?_ _ | refine qv_ ?_ | refine qw_ ?_ _)); refine blk_far ?_ NB161_175.out _; (with_reducible repeat (first | refine qu_ ?_ _ | refine qv_ ?_ | refine qw_ ?_ _)); refine blk_far ?_ NB161_175.out _; (with_reducible repeat (first | refine qu_ ?_ _ | refine qv_ ?_ | refine qw_ ?_ _)); refine blk_far ?_ NB161_175.out _; (with_reducible repeat (first | refine qu_ ?_ _ | refine qv_ ?_ | refine qw_ ?_ _)); exact BK161.out⟩, ⟨by (with_reducible repeat (first | refine qu_ ?_ _ | refine qv_ ?_ | refine qw_ ?_ _)); refine blk_far ?_ NB162_175.out _; (with_reducible repeat (first | refine qu_ ?_ _ | refine qv_ ?_ | refine qw_ ?_ _)); refine blk_far ?_ NB162_175.out _; (with_reducible repeat (first | refine qu_ ?_ _ | refine qv_ ?_ | refine qw_ ?_ _)); refine blk_far ?_ NB162_175.out _; (with_reducible repeat (first | refine qu_ ?_ _ | refine qv_ ?_ | refine qw_ ?_ _)); exact BK162.out⟩, ⟨by (with_reducible repeat (first | refine qu_ ?_ _ | refine qv_ ?_ | refine qw_ ?_ _)); refine blk_put (cs := #[.slice none 0 0, .slice Ao18 y166.length co18, .slice none 0 0]) ?_ 2 _ rfl; (with_reducible repeat (first | refine qu_ ?_ _ | refine qv_ ?_ | refine qw_ ?_ _)); refine blk_put (cs := #[.slice none 0 0, .slice none 0 0, .slice none 0 0]) ?_ 1 _ rfl; (with_reducible repeat (first | refine qu_ ?_ _ | refine qv_ ?_ | refine qw_ ?_ _)); refine blk_put (cs := #[.slice none 0 0, .slice none 0 0, .slice none 0 0]) ?_ 0 _ rfl; (with_reducible repeat (first | refine qu_ ?_ _ | refine qv_ ?_ | refine qw_ ?_ _)); exact BK175.out⟩, ⟨by repeat (first | (with_reducible first | exact HB.out | apply qc_ | apply qx_ | apply qf_ | refine qg_ ?_ GE161.out | refine qg_ ?_ GE162.out | refine qg_ ?_ GE175.out) | exact HB.out)⟩⟩
   case round =>
    clear H'
    try clear c2
    try clear p2
    try clear c3
    try clear c22
    try clear c23
    try clear hcz24_0
    try clear hcz24_1
    try clear hcz24_2
    try clear hfz24_0
    try clear hfz24_1
    try clear hfz24_2
    obtain ⟨x18_1, x176000_1, u176000, rfl, HA, HK1, HO_176000, HO_176001, HO_176002, BK161, BK162, BK175, HB⟩ := hrel
    cases gk with
    | zero => exact absurd HA.out (by simp [spec_l5Own.l0])
    | succ k1 =>
     have H := HA.out
     clear HA
     simp only [spec_l5Own.l0] at H
     by_cases c25 : x18_1 < (l0_0.length : Int)
     ·rw [if_pos c25] at H
      have c25b0 : decide (x18_1 < (l0_0.length : Int)) = true := decide_eq_true c25
      clear c25
      by_cases c26 : 0 ≤ x18_1
      ·rw [if_pos c26] at H
       have c26b0 : decide (0 ≤ x18_1) = true := decide_eq_true c26
       clear c26
       by_cases c27 : x18_1 < (l0_0.length : Int)
       ·rw [if_pos c27] at H
        have c27b0 : decide (x18_1 < (l0_0.length : Int)) = true := decide_eq_true c27
        clear c27
        obtain ⟨y177, hy177⟩ : ∃ y_ : List Int, y_ = (([] : List Int)) := ⟨_, rfl⟩
        replace H : (if y177.length + (rd_L1 l0_0 x18_1).length < 17592186044416 then (if x176000_1.length < 5864062014805 then (spec_l5Own.l0 k1 l0_0 (l0_0.length : Int) (wrap64 (x18_1 + 1)) (x176000_1 ++ [(y177 ++ (rd_L1 l0_0 x18_1))]) y166 y172) else (none)) else (none)) = some (r1, r2, r3) := by first | (rw [hy177]; with_reducible exact H) | (have H2_ := (Option.bind_some _ _).symm.trans H; rw [hy177]; with_reducible exact H2_) | (have H2_ := (Option.bind_some _ _).symm.trans H; with_reducible exact H2_) | with_reducible exact H | (rw [hy177]; exact H) | exact H
        have Ny177 := qm_ hy177
        clear hy177
        by_cases c28 : y177.length + (rd_L1 l0_0 x18_1).length < 17592186044416
        ·rw [if_pos c28] at H
         have LMc28 := qm_ c28
         clear c28
         obtain ⟨y180, hy180⟩ : ∃ y_ : List Int, y_ = (y177 ++ (rd_L1 l0_0 x18_1)) := ⟨_, rfl⟩
         replace H : (if x176000_1.length < 5864062014805 then (spec_l5Own.l0 k1 l0_0 (l0_0.length : Int) (wrap64 (x18_1 + 1)) (x176000_1 ++ [y180]) y166 y172) else (none)) = some (r1, r2, r3) := by first | (rw [hy180]; with_reducible exact H) | (have H2_ := (Option.bind_some _ _).symm.trans H; rw [hy180]; with_reducible exact H2_) | (have H2_ := (Option.bind_some _ _).symm.trans H; with_reducible exact H2_) | with_reducible exact H | (rw [hy180]; exact H) | exact H
         have Ny180 := qm_ hy180
         clear hy180
         by_cases c29 : x176000_1.length < 5864062014805
         ·rw [if_pos c29] at H
          have LMc29 := qm_ c29
          clear c29
          obtain ⟨y183, hy183⟩ : ∃ y_ : List (List Int), y_ = (x176000_1 ++ [y180]) := ⟨_, rfl⟩
          replace H : (spec_l5Own.l0 k1 l0_0 (l0_0.length : Int) (wrap64 (x18_1 + 1)) y183 y166 y172) = some (r1, r2, r3) := by first | (rw [hy183]; with_reducible exact H) | (have H2_ := (Option.bind_some _ _).symm.trans H; rw [hy183]; with_reducible exact H2_) | (have H2_ := (Option.bind_some _ _).symm.trans H; with_reducible exact H2_) | with_reducible exact H | (rw [hy183]; exact H) | exact H
          have Ny183 := qm_ hy183
          clear hy183
          have H' := qm_ H
          clear H
          have p176 : 0 ≤ (x18_1 : Int) := of_decide_eq_true (by first | (with_reducible assumption) | assumption)
          have q176 : x18_1 < (l0_0.length : Int) := of_decide_eq_true (by first | (with_reducible assumption) | assumption)
          obtain ⟨ad176, A176_0, c176_0, e176, hx176_0, hl176_0, hi176_0⟩ := at_L1 HR0_0.out x18_1 p176 q176
          cases e176
          replace hx176_0 := (HB.out.cell (World.block_lt_of_cell? w _ hx176_0)).trans hx176_0
          have HR176_0 := qm_ hi176_0
          have HC176_0 := qm_ hl176_0
          clear hi176_0 hl176_0
          replace p176 := eq_true p176
          replace q176 := eq_true q176
          try go_wp2
          have n0_ := qm_ (Kd.S_drew HO_176000.out)
          have n1_ := qm_ (qd_ HO_176001.out)
          have n2_ := qm_ (qd_ HO_176002.out)
          have n3_ := qm_ (qv_ BK161.out)
          have n4_ := qm_ (qv_ BK162.out)
          have n5_ := qm_ (qv_ BK175.out)
          have n6_ := qm_ (qf_ HB.out)
          clear HO_176000
          clear HO_176001
          clear HO_176002
          clear BK161
          clear BK162
          clear BK175
          clear HB
          have HO_176000 := n0_
          have HO_176001 := n1_
          have HO_176002 := n2_
          have BK161 := n3_
          have BK162 := n4_
          have BK175 := n5_
          have HB := n6_
          clear n0_ n1_ n2_ n3_ n4_ n5_ n6_
          refine start_ (n := 9) (S := fun w' => w'.cell? ⟨gb175, 0, none⟩ = some (u176000) ∧ w'.cell? ⟨gb175, 1, none⟩ = some (.slice Ao18 y166.length co18) ∧ w'.cell? ⟨gb175, 2, none⟩ = some (.slice Ao17 y172.length co17)) (ds := [8]) #[false, false, false, false, false, false, false, false, false] (by kernel_rfl) rfl rfl ⟨(blk_cell BK175.out 0).trans rfl, (blk_cell BK175.out 1).trans rfl, (blk_cell BK175.out 2).trans rfl⟩ (fun hHeld => ?_); refine with_tabW spec_l5Own.tab5 spec_l5Own.bits5 (fun HT_ HW_ => ?_)
          generalize wr.drew = w30 at HO_176000 HO_176001 HO_176002 BK161 BK162 BK175 HB hHeld ⊢
          refine pure_ (i := 0) (N := some 22) (v := ?_) (a' := ?_) #[true, false, false, false, false, false, false, false, false] rfl rfl (any_of HT_.out (by kernel_rfl)) (fun _ _ _ h => h) (Or.inl ⟨by rfl, ?_⟩) ?_ ?_
          rotate_left
          ·intro w'
           go_simp
           with_reducible rfl
          rotate_left
          ·simp only [Act.put, la_, lb_, lc_, i64_w, i32_w]
           rfl
          refine pure_ (i := 3) (N := some 25) (v := ?_) (a' := ?_) #[true, false, false, true, false, false, false, false, false] rfl rfl (any_of HT_.out (by kernel_rfl)) (fun _ _ _ h => h) (Or.inl ⟨by rfl, ?_⟩) ?_ ?_
          rotate_left
          ·intro w'
           go_simp
           with_reducible rfl
          rotate_left
          ·simp only [Act.put, la_, lb_, lc_, i64_w, i32_w]
           rfl
          refine take_ (i := 1) (N := some 23) (v := ?_) (a' := ?_) #[true, true, false, true, false, false, false, false, false] rfl rfl (take_ofW HT_.out HW_.out (by kernel_rfl)) (fun _ _ _ h => h) (Or.inl ⟨by rfl, ?_⟩) hHeld ?_ ?_
          rotate_left
          ·rintro w' ⟨s0, s1, s2⟩
           go_simp
           with_reducible rfl
          rotate_left
          ·simp only [Act.put, la_, lb_, lc_, i64_w, i32_w]
           rfl
          refine one_ (i := 2) (N := some 24) #[true, true, true, true, false, false, false, false, false] rfl rfl (one_of HT_.out (by kernel_rfl)) (by decide) (fun K hK => ?_)
          refine Kd.R_lit_step (Kd.int .i64) _ 3 ?hg (N := 24) ?hd (xs := ([] : List Int)) (inner := []) (ok := fun _ => True) (okp := fun _ => True) ?hr ?hp (fun _ hk => hk) trivial (Below.refl _ _) (Nat.le_refl _) (by simp) ?_; (case hd => rfl); (case hg => rfl); (case hr => first | (go_simp; done) | (go_simp; rfl)); (case hp => exact (Reps.none _ _))
          intro v178 w31 ho32 hb hg_ hnew_
          clear hg_ hnew_
          (first | rw [← Ny177.out] at ho32 | (simp only [Int.reduceToNat] at ho32; rw [← Ny177.out] at ho32))
          have n0_ := qm_ (Kd.S_elder' (by (with_reducible repeat (first | apply Kd.S_alloc | apply Kd.S_drewN | apply Kd.S_drew)); exact HO_176000.out) (Kd.R_base ho32) hb)
          have n1_ := qm_ (qb_ (by (with_reducible repeat (first | apply qa_ | apply qn_ | apply qd_)); exact HO_176001.out) hb)
          have n2_ := qm_ (Kd.R_elder' (by (with_reducible repeat (first | apply qa_ | apply qn_ | apply qd_)); exact HO_176002.out) (Kd.R_base ho32) hb)
          have n3_ := qm_ (ql_ (qe_ ho32 (qt_ (by (with_reducible repeat (first | apply qa_ | apply qn_ | apply qd_)); exact HO_176002.out))) (qz_ (by repeat (first | (with_reducible first | exact HB.out | apply qc_ | apply qx_ | apply qf_ | refine qg_ ?_ GE161.out | refine qg_ ?_ GE162.out | refine qg_ ?_ GE175.out) | exact HB.out))))
          have n4_ := qm_ (qs_ (g := gb161) (o := .cells #[.slice (some ad176) l0_0.length c0_0, .slice A0_1 l0_1.length c0_1, .slice A0_2 l0_2.length c0_2] 30 (0, 0)) (by first | with_reducible exact BK161.out | with_reducible exact qu_ BK161.out _ | exact BK161.out | exact qw_ BK161.out _) hb)
          have n5_ := qm_ (qs_ (g := gb162) (o := .cells #[.slice none 0 0, .slice none 0 0, .slice none 0 0] 30 (0, 0)) (by first | with_reducible exact BK162.out | with_reducible exact qu_ BK162.out _ | exact BK162.out | exact qw_ BK162.out _) hb)
          have n6_ := qm_ (qs_ (g := gb175) (o := .cells #[u176000, .slice Ao18 y166.length co18, .slice Ao17 y172.length co17] 30 (0, 0)) (by first | with_reducible exact BK175.out | with_reducible exact qu_ BK175.out _ | exact BK175.out | exact qw_ BK175.out _) hb)
          have n7_ := qm_ (qh_ (by repeat (first | (with_reducible first | exact HB.out | apply qc_ | apply qx_ | apply qf_ | refine qg_ ?_ GE161.out | refine qg_ ?_ GE162.out | refine qg_ ?_ GE175.out) | exact HB.out)) hb)
          clear HO_176000
          clear HO_176001
          clear HO_176002
          clear BK161
          clear BK162
          clear BK175
          clear HB
          have HO_176000 := n0_
          have HO_176001 := n1_
          have HO_176002 := n2_
          have HO179 := n3_
          have BK161 := n4_
          have BK162 := n5_
          have BK175 := n6_
          have HB := n7_
          clear n0_ n1_ n2_ n3_ n4_ n5_ n6_ n7_
          clear hb ho32
          refine hK.out _ _ ⟨(blk_cell BK175.out 0).trans rfl, (blk_cell BK175.out 1).trans rfl, (blk_cell BK175.out 2).trans rfl⟩ (fun hHeld => ?_)
          clear hK K
          refine norm_ (a' := ?_) ?_ ?_
          rotate_left
          ·show Act.put _ (some 24) _ = _
           simp only [Act.put, la_, lb_, lc_, i64_w, i32_w]
           rfl
          refine one_ (i := 4) (N := some 26) #[true, true, true, true, true, false, false, false, false] rfl rfl (one_of HT_.out (by kernel_rfl)) (by decide) (fun K hK => ?_)
          refine Kd.R_append_rows_step (Kd.int .i64) (w0 := w) w.heap.size (by rfl) (.tmp 24) (.tmp 25) 24 3 (.int .i64 0) 8 rfl Try.underlying24 info3 rfl (by decide) (by omega) v178 y177 (rd_L1 l0_0 x18_1) _ _ _ (fun k_ => some k_ ≠ (.slice Ao17 y172.length co17 : Value).ownBlock) (fun _ => False) rfl rfl ?aO ?aR (fun _ _ h => h) (fun _ h => h.elim) ?aF ?aB ?aS ?aL ?_
          (case aR => repeat (first | exact (Kd.C_below HR176_0.out HB.out) | (with_reducible refine Kd.C_alloc ?_ _) | (with_reducible refine Kd.C_drewN ?_ _) | (with_reducible refine Kd.C_drew ?_)))
          (case aB => exact (by repeat (first | (with_reducible first | exact HB.out | apply qc_ | apply qx_ | apply qf_ | refine qg_ ?_ GE161.out | refine qg_ ?_ GE162.out | refine qg_ ?_ GE175.out) | exact HB.out)))
          (case aF => exact (fun k_ hk => Kd.fresh' (qt_ (by (with_reducible repeat (first | apply qa_ | apply qn_ | apply qd_)); exact HO_176002.out)) k_ hk))
          (case aO => exact (by (with_reducible repeat (first | apply qa_ | apply qn_ | apply qd_)); exact Kd.R_mono HO179.out (fun _ hk => hk.2)))
          (case aS => exact (qz_ (by repeat (first | (with_reducible first | exact HB.out | apply qc_ | apply qx_ | apply qf_ | refine qg_ ?_ GE161.out | refine qg_ ?_ GE162.out | refine qg_ ?_ GE175.out) | exact HB.out))))
          (case aL => have := LMc28.out; omega)
          intro v181 w33 ho hb hg hat
          rw [← Ny180.out] at ho
          have n0_ := qm_ (Kd.S_after (ok := (fun k_ => some k_ ≠ (.slice Ao17 y172.length co17 : Value).ownBlock)) (by (with_reducible repeat (first | apply Kd.S_alloc | apply Kd.S_drewN | apply Kd.S_drew)); exact HO_176000.out) hg hat)
          have n1_ := qm_ (Kd.R_over' (by (with_reducible repeat (first | apply qa_ | apply qn_ | apply qd_)); exact HO_176001.out) (Kd.R_typed (by (with_reducible repeat (first | apply qa_ | apply qn_ | apply qd_)); exact HO179.out)) (by decide) hg)
          have n2_ := qm_ (Kd.R_after (ok := (fun _ => True)) (by (with_reducible repeat (first | apply qa_ | apply qn_ | apply qd_)); exact HO_176002.out) hg hat)
          have n3_ := qm_ (blk_grown (g := gb161) (o := .cells #[.slice (some ad176) l0_0.length c0_0, .slice A0_1 l0_1.length c0_1, .slice A0_2 l0_2.length c0_2] 30 (0, 0)) (by first | with_reducible exact BK161.out | with_reducible exact qu_ BK161.out _ | exact BK161.out | exact qw_ BK161.out _) hg (Kd.R_ne HO179.out BK161.out (by decide)))
          have n4_ := qm_ (blk_grown (g := gb162) (o := .cells #[.slice none 0 0, .slice none 0 0, .slice none 0 0] 30 (0, 0)) (by first | with_reducible exact BK162.out | with_reducible exact qu_ BK162.out _ | exact BK162.out | exact qw_ BK162.out _) hg (Kd.R_ne HO179.out BK162.out (by decide)))
          have n5_ := qm_ (blk_grown (g := gb175) (o := .cells #[u176000, .slice Ao18 y166.length co18, .slice Ao17 y172.length co17] 30 (0, 0)) (by first | with_reducible exact BK175.out | with_reducible exact qu_ BK175.out _ | exact BK175.out | exact qw_ BK175.out _) hg (Kd.R_ne HO179.out BK175.out (by decide)))
          have n6_ := qm_ (hb)
          have n7_ := qm_ (ho)
          clear HO_176000
          clear HO_176001
          clear HO_176002
          clear BK161
          clear BK162
          clear BK175
          clear HB
          clear HO179
          have HO_176000 := n0_
          have HO_176001 := n1_
          have HO_176002 := n2_
          have BK161 := n3_
          have BK162 := n4_
          have BK175 := n5_
          have HB := n6_
          have HO182 := n7_
          clear n0_ n1_ n2_ n3_ n4_ n5_ n6_ n7_
          clear ho hb hg hat
          obtain ⟨Ao35, co35, eo35⟩ := Kd.R_slice HO182.out
          (first | subst eo35 | (injection eo35 with f1_ f2_ f3_; have f4_ := f1_.symm; have f5_ := f3_.symm; clear f1_ f2_ f3_; subst f4_; subst f5_))
          refine hK.out _ _ ⟨(blk_cell BK175.out 0).trans rfl, (blk_cell BK175.out 1).trans rfl, (blk_cell BK175.out 2).trans rfl⟩ (fun hHeld => ?_)
          clear hK K
          refine norm_ (a' := ?_) ?_ ?_
          rotate_left
          ·show Act.put _ (some 26) _ = _
           simp only [Act.put, la_, lb_, lc_, i64_w, i32_w]
           rfl
          refine one_ (i := 5) (N := some 27) #[true, true, true, true, true, true, false, false, false] rfl rfl (one_of HT_.out (by kernel_rfl)) (by decide) (fun K hK => ?_)
          refine value_ (w1 := ?_) (v := ?_) (by rfl) rfl ?_ ?_
          rotate_left 2
          ·go_simp
           constructor
           ·rfl
           ·rfl
          refine hK.out _ _ ⟨(blk_cell (qw_ BK175.out _) 0).trans rfl, (blk_cell (qw_ BK175.out _) 1).trans rfl, (blk_cell (qw_ BK175.out _) 2).trans rfl⟩ (fun hHeld => ?_)
          clear hK K
          refine norm_ (a' := ?_) ?_ ?_
          rotate_left
          ·show Act.put _ (some 27) _ = _
           simp only [Act.put, la_, lb_, lc_, i64_w, i32_w]
           rfl
          refine one_ (i := 6) (N := some 28) #[true, true, true, true, true, true, true, false, false] rfl rfl (one_of HT_.out (by kernel_rfl)) (by decide) (fun K hK => ?_)
          refine Kd.S_append_step (Kd.slice 3 (Kd.int .i64)) (w0 := w) w.heap.size (by rfl) (.tmp 23) (.tmp 27) 22 24 (.slice none 0 0) 24 rfl Try.underlying22 info24 rfl (by decide) (by omega) u176000 x176000_1 y180 [.slice Ao35 y180.length co35] (fun k_ => some k_ ≠ (.slice Ao17 y172.length co17 : Value).ownBlock) (fun k_ => some k_ = (.slice Ao35 y180.length co35 : Value).ownBlock) rfl rfl ?aP (fun k_ hk_ => ((Kd.R_mono (ok' := fun k_ => ((fun k_ => some k_ ≠ (.slice Ao17 y172.length co17 : Value).ownBlock)) k_ ∧ some k_ ≠ (u176000 : Value).ownBlock) (Kd.R_apart' (HO182.out) (Kd.S_typed HO_176000.out) (by decide)) (fun k_ hk => ⟨hk.1, hk.2⟩))).1 k_ hk_.symm) ?aF ?aO ?aB ?aS ?aL ?_
          (case aP => exact Kd.M_row (Kd.R_mono (Kd.R_tight rfl (Kd.R_mono (ok' := fun k_ => ((fun k_ => some k_ ≠ (.slice Ao17 y172.length co17 : Value).ownBlock)) k_ ∧ some k_ ≠ (u176000 : Value).ownBlock) (Kd.R_apart' (HO182.out) (Kd.S_typed HO_176000.out) (by decide)) (fun k_ hk => ⟨hk.1, hk.2⟩))) (fun _ h_ => h_)))
          (case aB => exact (by repeat (first | (with_reducible first | exact HB.out | apply qc_ | apply qx_ | apply qf_ | refine qg_ ?_ GE161.out | refine qg_ ?_ GE162.out | refine qg_ ?_ GE175.out) | exact HB.out)))
          (case aF => exact (fun k_ hk => Kd.fresh' (qt_ (by (with_reducible repeat (first | apply qa_ | apply qn_ | apply qd_)); exact HO_176002.out)) k_ hk))
          (case aO => exact (by (with_reducible repeat (first | apply Kd.S_alloc | apply Kd.S_drewN | apply Kd.S_drew)); exact Kd.S_mono HO_176000.out (fun k_ hk => ⟨hk.1, fun e_ => hk.2 e_⟩)))
          (case aS => exact (qz_ (by repeat (first | (with_reducible first | exact HB.out | apply qc_ | apply qx_ | apply qf_ | refine qg_ ?_ GE161.out | refine qg_ ?_ GE162.out | refine qg_ ?_ GE175.out) | exact HB.out))))
          (case aL => have := LMc29.out; omega)
          intro v184 w34 ho hb hg hat
          rw [← Ny183.out] at ho
          have n0_ := qm_ (Kd.R_over' (by (with_reducible repeat (first | apply qa_ | apply qn_ | apply qd_)); exact HO_176001.out) (Kd.S_typed (by (with_reducible repeat (first | apply Kd.S_alloc | apply Kd.S_drewN | apply Kd.S_drew)); exact HO_176000.out)) (by decide) hg)
          have n1_ := qm_ (Kd.R_over' (by (with_reducible repeat (first | apply qa_ | apply qn_ | apply qd_)); exact HO_176002.out) (Kd.S_typed (by (with_reducible repeat (first | apply Kd.S_alloc | apply Kd.S_drewN | apply Kd.S_drew)); exact HO_176000.out)) (by decide) hg)
          have n2_ := qm_ (blk_grown (g := gb161) (o := .cells #[.slice (some ad176) l0_0.length c0_0, .slice A0_1 l0_1.length c0_1, .slice A0_2 l0_2.length c0_2] 30 (0, 0)) (by first | with_reducible exact BK161.out | with_reducible exact qu_ BK161.out _ | exact BK161.out | exact qw_ BK161.out _) hg (Kd.S_ne HO_176000.out BK161.out (by decide)))
          have n3_ := qm_ (blk_grown (g := gb162) (o := .cells #[.slice none 0 0, .slice none 0 0, .slice none 0 0] 30 (0, 0)) (by first | with_reducible exact BK162.out | with_reducible exact qu_ BK162.out _ | exact BK162.out | exact qw_ BK162.out _) hg (Kd.S_ne HO_176000.out BK162.out (by decide)))
          have n4_ := qm_ (blk_grown (g := gb175) (o := .cells #[u176000, .slice Ao18 y166.length co18, .slice Ao17 y172.length co17] 30 (0, 0)) (by first | with_reducible exact BK175.out | with_reducible exact qu_ BK175.out _ | exact BK175.out | exact qw_ BK175.out _) hg (Kd.S_ne HO_176000.out BK175.out (by decide)))
          have n5_ := qm_ (hb)
          have n6_ := qm_ (ho)
          clear HO_176001
          clear HO_176002
          clear BK161
          clear BK162
          clear BK175
          clear HB
          clear HO_176000
          clear HO182
          have HO_176001 := n0_
          have HO_176002 := n1_
          have BK161 := n2_
          have BK162 := n3_
          have BK175 := n4_
          have HB := n5_
          have HO185 := n6_
          clear n0_ n1_ n2_ n3_ n4_ n5_ n6_
          clear ho hb hg hat
          obtain ⟨Ao36, co36, eo36⟩ := Kd.S_slice HO185.out
          (first | subst eo36 | (injection eo36 with f1_ f2_ f3_; have f4_ := f1_.symm; have f5_ := f3_.symm; clear f1_ f2_ f3_; subst f4_; subst f5_))
          refine hK.out _ _ ⟨(blk_cell BK175.out 0).trans rfl, (blk_cell BK175.out 1).trans rfl, (blk_cell BK175.out 2).trans rfl⟩ (fun hHeld => ?_)
          clear hK K
          refine norm_ (a' := ?_) ?_ ?_
          rotate_left
          ·show Act.put _ (some 28) _ = _
           simp only [Act.put, la_, lb_, lc_, i64_w, i32_w]
           rfl
          refine pure_ (i := 7) (N := some 29) (v := ?_) (a' := ?_) #[true, true, true, true, true, true, true, true, false] rfl rfl (any_of HT_.out (by kernel_rfl)) (fun _ _ _ h => h) (Or.inl ⟨by rfl, ?_⟩) ?_ ?_
          rotate_left
          ·intro w'
           go_simp
           with_reducible rfl
          rotate_left
          ·simp only [Act.put, la_, lb_, lc_, i64_w, i32_w]
           rfl
          refine last_ (i := 8) (N := none) #[true, true, true, true, true, true, true, true, true] rfl rfl (one_of HT_.out (by kernel_rfl)) (by decide) (fun K hK => ?_)
          have hs37 : w34.cell? ⟨gb175, 0, none⟩ = some (u176000) := (blk_cell BK175.out 0).trans rfl
          have hfs37 := blk_frozen BK175.out 0
          have hns37_0 := NB161_175.out
          have hns37_1 := NB162_175.out
          have hms37_0 := NB175_161.out
          have hms37_1 := NB175_162.out
          refine skip_ (w1 := ?_) (by rfl) rfl ?_ ?_
          rotate_left
          ·go_simp
           rfl
          refine hK.out _ _ ?_
          clear hK K
          refine done_ (done_of HT_.out (by kernel_rfl)) ?_
          try go_wp2
          go_roundg k1
          case measure => have := HK1.out; omega
          case rel => exact ⟨(wrap64 (x18_1 + 1)), (y183), (.slice Ao36 y183.length co36), (by first | rfl | (simp; done) | (simp [*]; done)), H', ⟨by have := HK1.out; omega⟩, ⟨by (with_reducible repeat (first | apply Kd.S_alloc | apply Kd.S_drewN | apply Kd.S_drew)); exact Kd.S_mono (Kd.S_far (p := ⟨gb175, 0, none⟩) (Kd.S_types HO185.out BK175.out (by decide)) (fun _ hk => hk.2) (.slice Ao36 y183.length co36)) (fun _ hk => hk.1)⟩, ⟨by (with_reducible repeat (first | apply qa_ | apply qn_ | apply qd_)); exact Kd.R_mono (Kd.R_far (p := ⟨gb175, 0, none⟩) (Kd.R_types HO_176001.out BK175.out (by decide)) (fun _ hk => hk.2) (.slice Ao36 y183.length co36)) (fun _ hk => trivial)⟩, ⟨by (with_reducible repeat (first | apply qa_ | apply qn_ | apply qd_)); exact Kd.R_mono (Kd.R_far (p := ⟨gb175, 0, none⟩) (Kd.R_types HO_176002.out BK175.out (by decide)) (fun _ hk => hk.2) (.slice Ao36 y183.length co36)) (fun _ hk => trivial)⟩, ⟨by (with_reducible repeat (first | refine qu_ ?_ _ | refine qv_ ?_ | refine qw_ ?_ _)); refine blk_far ?_ NB161_175.out _; (with_reducible repeat (first | refine qu_ ?_ _ | refine qv_ ?_ | refine qw_ ?_ _)); exact BK161.out⟩, ⟨by (with_reducible repeat (first | refine qu_ ?_ _ | refine qv_ ?_ | refine qw_ ?_ _)); refine blk_far ?_ NB162_175.out _; (with_reducible repeat (first | refine qu_ ?_ _ | refine qv_ ?_ | refine qw_ ?_ _)); exact BK162.out⟩, ⟨by (with_reducible repeat (first | refine qu_ ?_ _ | refine qv_ ?_ | refine qw_ ?_ _)); refine blk_put (cs := #[u176000, .slice Ao18 y166.length co18, .slice Ao17 y172.length co17]) ?_ 0 _ rfl; (with_reducible repeat (first | refine qu_ ?_ _ | refine qv_ ?_ | refine qw_ ?_ _)); exact BK175.out⟩, ⟨by repeat (first | (with_reducible first | exact HB.out | apply qc_ | apply qx_ | apply qf_ | refine qg_ ?_ GE161.out | refine qg_ ?_ GE162.out | refine qg_ ?_ GE175.out) | exact HB.out)⟩⟩
         ·rw [if_neg c29] at H
          exact absurd H (by simp)
        ·rw [if_neg c28] at H
         exact absurd H (by simp)
       ·rw [if_neg c27] at H
        exact absurd H (by simp)
      ·rw [if_neg c26] at H
       exact absurd H (by simp)
     ·rw [if_neg c25] at H
      have c25b0 : decide (x18_1 < (l0_0.length : Int)) = false := decide_eq_false c25
      clear c25
      simp only [Option.some.injEq, Prod.mk.injEq] at H
      obtain ⟨rfl, rfl, rfl⟩ := H
      have hnb38 := NB175_161.out
      have hnc38 := NB161_175.out
      have hnb39 := NB175_162.out
      have hnc39 := NB162_175.out
      have hcz40_0 : wr.cell? ⟨gb175, 0, none⟩ = some (u176000) := (blk_cell BK175.out 0).trans rfl
      have hcz40_1 : wr.cell? ⟨gb175, 1, none⟩ = some (.slice Ao18 y166.length co18) := (blk_cell BK175.out 1).trans rfl
      have hcz40_2 : wr.cell? ⟨gb175, 2, none⟩ = some (.slice Ao17 y172.length co17) := (blk_cell BK175.out 2).trans rfl
      have hfz40_0 := blk_frozen BK175.out 0
      have hfz40_1 := blk_frozen BK175.out 1
      have hfz40_2 := blk_frozen BK175.out 2
      obtain ⟨Ao41, co41, eo41⟩ := Kd.S_slice HO_176000.out
      subst eo41
      have hnb42 := NB162_161.out
      have hnc42 := NB161_162.out
      have hcz43_0 : wr.cell? ⟨gb162, 0, none⟩ = some (.slice none 0 0) := (blk_cell BK162.out 0).trans rfl
      have hcz43_1 : wr.cell? ⟨gb162, 1, none⟩ = some (.slice none 0 0) := (blk_cell BK162.out 1).trans rfl
      have hcz43_2 : wr.cell? ⟨gb162, 2, none⟩ = some (.slice none 0 0) := (blk_cell BK162.out 2).trans rfl
      have hfz43_0 := blk_frozen BK162.out 0
      have hfz43_1 := blk_frozen BK162.out 1
      have hfz43_2 := blk_frozen BK162.out 2
      go_wp2
      refine bodyPost_ret (results_cell_row rfl _ _ gb162 30 #[.slice Ao41 x176000_1.length co41, .slice Ao18 y166.length co18, .slice Ao17 y172.length co17] (0, 0) _ rfl (by (with_reducible repeat (first | refine qu_ ?_ _ | refine qv_ ?_ | refine qw_ ?_ _)); refine blk_put (cs := #[.slice Ao41 x176000_1.length co41, .slice Ao18 y166.length co18, .slice none 0 0]) ?_ 2 _ rfl; (with_reducible repeat (first | refine qu_ ?_ _ | refine qv_ ?_ | refine qw_ ?_ _)); refine blk_put (cs := #[.slice Ao41 x176000_1.length co41, .slice none 0 0, .slice none 0 0]) ?_ 1 _ rfl; (with_reducible repeat (first | refine qu_ ?_ _ | refine qv_ ?_ | refine qw_ ?_ _)); refine blk_put (cs := #[.slice none 0 0, .slice none 0 0, .slice none 0 0]) ?_ 0 _ rfl; (with_reducible repeat (first | refine qu_ ?_ _ | refine qv_ ?_ | refine qw_ ?_ _)); exact BK162.out) Try.underlying30 rfl (by kernel_rfl)) rfl ?_
      exact ⟨_, _, _, by first | rfl | (simp [errW_none, errW_some] <;> rfl) | (simp [*, errW_none, errW_some] <;> rfl), by (with_reducible repeat (first | apply Kd.S_alloc | apply Kd.S_drewN | apply Kd.S_drew)); exact Kd.S_mono (Kd.S_far (p := ⟨gb162, 2, none⟩) (Kd.S_far (p := ⟨gb162, 1, none⟩) (Kd.S_far (p := ⟨gb162, 0, none⟩) (Kd.S_types HO_176000.out BK162.out (by decide)) (fun _ hk => hk.2) (.slice Ao41 x176000_1.length co41)) (fun _ hk => hk.2) (.slice Ao18 y166.length co18)) (fun _ hk => hk.2) (.slice Ao17 y172.length co17)) (fun _ hk => hk.1), by (with_reducible repeat (first | apply qa_ | apply qn_ | apply qd_)); exact Kd.R_mono (Kd.R_far (p := ⟨gb162, 2, none⟩) (Kd.R_far (p := ⟨gb162, 1, none⟩) (Kd.R_far (p := ⟨gb162, 0, none⟩) (Kd.R_types HO_176001.out BK162.out (by decide)) (fun _ hk => hk.2) (.slice Ao41 x176000_1.length co41)) (fun _ hk => hk.2) (.slice Ao18 y166.length co18)) (fun _ hk => hk.2) (.slice Ao17 y172.length co17)) (fun _ hk => trivial), by (with_reducible repeat (first | apply qa_ | apply qn_ | apply qd_)); exact Kd.R_mono (Kd.R_far (p := ⟨gb162, 2, none⟩) (Kd.R_far (p := ⟨gb162, 1, none⟩) (Kd.R_far (p := ⟨gb162, 0, none⟩) (Kd.R_types HO_176002.out BK162.out (by decide)) (fun _ hk => hk.2) (.slice Ao41 x176000_1.length co41)) (fun _ hk => hk.2) (.slice Ao18 y166.length co18)) (fun _ hk => hk.2) (.slice Ao17 y172.length co17)) (fun _ hk => trivial), by repeat (first | (with_reducible first | exact HB.out | apply qc_ | apply qx_ | apply qf_ | refine qg_ ?_ GE161.out | refine qg_ ?_ GE162.out | refine qg_ ?_ GE175.out) | exact HB.out)⟩
  ·rw [if_neg c3] at H
   exact absurd H (by simp)
 ·rw [if_neg c2] at H
  exact absurd H (by simp)

end Go.Proofs.Ytkfldlniknifpaa.QFnExactSetField
