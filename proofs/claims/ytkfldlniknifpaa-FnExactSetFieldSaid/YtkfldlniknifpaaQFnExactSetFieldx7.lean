-- Written by a program of the session, a changed copy of the kit's print: not the kit's own print; Lean checks it.
import Derived.Test.YtkfldlniknifpaaQFnExactSetFieldx0
import Derived.Test.YtkfldlniknifpaaQFnExactSetFieldx6
namespace Go.Proofs.Ytkfldlniknifpaa.QFnExactSetField
open Go.RowKit Go.Proofs.YtkfldlniknifpaaW.PrintWords Go.Proofs.YtkfldlniknifpaaW.PrintLast Go.Proofs.YtkfldlniknifpaaW.PrintMore
attribute [local go_sem] max2_int min2_int max_two min_two max_three min_three max_four min_four   -- for this text's walks alone
set_option linter.unusedVariables false
set_option linter.unusedSimpArgs false

open List renaming setIfInBounds_toArray → la_, set_cons_zero → lb_, set_cons_succ → lc_
open Go.Proofs.YtkfldlniknifpaaW.PrintWords.Kd renaming R_alloc → qa_, R_drewN → qn_, R_drew → qd_, R_lower → ql_, R_lt → qt_, R_new' → qe_, R_below → qb_
open Go.Proofs.YtkfldlniknifpaaW.PrintWords renaming blk_drewN → qu_, blk_drew → qv_, blk_alloc → qw_, blk_below → qs_, below_size → qz_, below_alloc → qc_, pw_below_drewN → qx_, below_drew1 → qf_, below_set → qg_, below_step → qh_
open Go.Proofs.YtkfldlniknifpaaW.PrintWords.Aside0 renaming mk → qm_
/-! ### slices_Clone_bool_bool: function 107 -/
def slices_Clone_bool_bool.f (l0 : List Bool) : Option (List Bool) := (some (([] : List Bool) : List Bool)).bind fun y246 => (if y246.length + l0.length < 140737488355328 then (some (y246 ++ l0)) else (none))
set_option maxHeartbeats 8000000 in
set_option maxRecDepth 100000 in
theorem slices_Clone_bool_bool.calls (A0 : Option Addr) (c0 : Nat) (l0 : List Bool) (r : List Bool) (w : World) (hr0 : Kd.C Kd.bool w A0 l0.length l0) (hc0 : l0.length ≤ c0) (h : slices_Clone_bool_bool.f l0 = some r) :
  Calls Try.prog 107 #[.slice A0 l0.length c0] w fun e w' => ∃ v0_ : Value, e = .returned (v0_) ∧ Kd.R Kd.bool 4 w' w.heap.size (fun _ => True) v0_ r ∧ Below w.heap.size w w' := by
 by_cases hA_ : A0 = none
 ·subst hA_
  have hl_ : l0 = [] := by
   rcases Nat.eq_zero_or_pos l0.length with h0 | h0
   ·exact List.eq_nil_of_length_eq_zero h0
   ·obtain ⟨ad_, e_, _⟩ := hr0.2.2 h0
    cases e_
  subst hl_
  have hr_ : r = [] := by
   have h2 := h
   simp only [slices_Clone_bool_bool.f] at h2
   simpa using h2.symm
  subst hr_
  have hq_ : ∀ W : World, (binOp .eql 23 (.slice none 0 c0) (.slice none 0 0)).run Try.prog W = .ok (.bool true) W := fun W => Lib.run_eql_slice_nil W 23 4 none 0 c0 0 0 Try.underlying23
  clear h
  go_enter Try.func107, Try.ntmps107
  go_wp2
  go_ret
  exact ⟨_, rfl, Kd.R_nil _ _ _ _ _, Below.refl _ _⟩
 have hnn_ : A0.isNone = false := by cases A0 <;> simp_all
 have hq_ : ∀ W : World, (binOp .eql 23 (.slice A0 l0.length c0) (.slice none 0 0)).run Try.prog W = .ok (.bool false) W := fun W => (Lib.run_eql_slice_nil W 23 4 A0 l0.length c0 0 0 Try.underlying23).trans (by rw [hnn_])
 clear hnn_ hA_
 have HR0 := qm_ hr0
 have HC0 := qm_ hc0
 clear hr0 hc0
 have HB := qm_ (Below.refl w.heap.size w)
 have H : ((some (([] : List Bool) : List Bool)).bind fun y246 => (if y246.length + l0.length < 140737488355328 then (some (y246 ++ l0)) else (none))) = some r := h
 clear h
 obtain ⟨y246, hy246⟩ : ∃ y_ : List Bool, y_ = (([] : List Bool)) := ⟨_, rfl⟩
 replace H : (if y246.length + l0.length < 140737488355328 then (some (y246 ++ l0)) else (none)) = some r := by first | (rw [hy246]; with_reducible exact H) | (have H2_ := (Option.bind_some _ _).symm.trans H; rw [hy246]; with_reducible exact H2_) | (have H2_ := (Option.bind_some _ _).symm.trans H; with_reducible exact H2_) | with_reducible exact H | (rw [hy246]; exact H) | exact H
 have Ny246 := qm_ hy246
 clear hy246
 by_cases c2 : y246.length + l0.length < 140737488355328
 ·rw [if_pos c2] at H
  have LMc2 := qm_ c2
  clear c2
  obtain ⟨y249, hy249⟩ : ∃ y_ : List Bool, y_ = (y246 ++ l0) := ⟨_, rfl⟩
  replace H : (some y249) = some r := by first | (rw [hy249]; with_reducible exact H) | (have H2_ := (Option.bind_some _ _).symm.trans H; rw [hy249]; with_reducible exact H2_) | (have H2_ := (Option.bind_some _ _).symm.trans H; with_reducible exact H2_) | with_reducible exact H | (rw [hy249]; exact H) | exact H
  have Ny249 := qm_ hy249
  clear hy249
  obtain rfl := Option.some.inj H
  go_enter Try.func107, Try.ntmps107
  go_wp2_with (first | ((with_reducible refine gate_dst (N := 5) rfl ?_); refine Kd.R_lit Kd.bool _ 4 ?hg (N := 5) ?hd (xs := ([] : List Bool)) (inner := []) (ok := fun _ => True) (okp := fun _ => True) ?hr ?hp (fun _ hk => hk) trivial (Below.refl _ _) (Nat.le_refl _) (by simp) ?_; (case hd => rfl); (case hg => rfl); (case hr => first | (go_simp; done) | (go_simp; rfl)); (case hp => exact (Reps.none _ _)); intro v247 w3 ho4 hb hg_ hnew_; clear hg_ hnew_; (first | rw [← Ny246.out] at ho4 | (simp only [Int.reduceToNat] at ho4; rw [← Ny246.out] at ho4)); have n0_ := qm_ (ql_ ho4 (qz_ (by repeat (first | (with_reducible first | exact HB.out | apply qc_ | apply qx_ | apply qf_) | exact HB.out)))); have n1_ := qm_ (qh_ (by repeat (first | (with_reducible first | exact HB.out | apply qc_ | apply qx_ | apply qf_) | exact HB.out)) hb); clear HB; have HO248 := n0_; have HB := n1_; clear n0_ n1_; clear hb ho4) | ((with_reducible refine gate_builtin (b := .append) (xs := #[.tmp 5, .tmp 6]) rfl ?_); at_builtin; refine Kd.R_append_rows Kd.bool (w0 := w) w.heap.size rfl (.tmp 5) (.tmp 6) 23 4 (.bool false) 1 rfl Try.underlying23 info4 rfl (by decide) (by omega) v247 y246 l0 _ _ _ (fun _ => True) (fun _ => False) rfl rfl ?aO ?aR (fun _ _ h => h) (fun _ h => h.elim) ?aF ?aB ?aS ?aL ?_; (case aR => repeat (first | exact (Kd.C_below HR0.out HB.out) | (with_reducible refine Kd.C_alloc ?_ _) | (with_reducible refine Kd.C_drewN ?_ _) | (with_reducible refine Kd.C_drew ?_))); (case aB => exact (by repeat (first | (with_reducible first | exact HB.out | apply qc_ | apply qx_ | apply qf_) | exact HB.out))); (case aF => exact (fun _ _ => trivial)); (case aO => exact (by (with_reducible repeat (first | apply qa_ | apply qn_ | apply qd_)); exact HO248.out)); (case aS => exact (qz_ (by repeat (first | (with_reducible first | exact HB.out | apply qc_ | apply qx_ | apply qf_) | exact HB.out)))); (case aL => have := LMc2.out; omega); intro v250 w5 ho hb hg hat; rw [← Ny249.out] at ho; have n0_ := qm_ (hb); have n1_ := qm_ (ho); clear HB; clear HO248; have HB := n0_; have HO251 := n1_; clear n0_ n1_; clear ho hb hg hat))
  go_ret
  exact ⟨_, by first | rfl | (simp [errW_none, errW_some] <;> rfl) | (simp [*, errW_none, errW_some] <;> rfl), by (with_reducible repeat (first | apply qa_ | apply qn_ | apply qd_)); exact HO251.out, by repeat (first | (with_reducible first | exact HB.out | apply qc_ | apply qx_ | apply qf_) | exact HB.out)⟩
 ·rw [if_neg c2] at H
  exact absurd H (by simp)

/-! ### impl_cloneHeap: function 74 -/
def impl_cloneHeap.l0 : Nat → List (List Int) → Int → Int → List (List Int) → List Bool → List Int → Option ((List (List Int)) × List Bool × List Int)
 | 0, _, _, _, _, _, _ => none
 | k + 1, x14, x15, x16, x261000, x261001, x261002 => if x16 < x15 then (if 0 ≤ x16 then (if x16 < (x14.length : Int) then ((slices_Clone_int_int.f (rd_L1 x14 x16)).bind fun t262 => (if x261000.length < 5864062014805 then (impl_cloneHeap.l0 k x14 x15 (wrap64 (x16 + 1)) (x261000 ++ [t262]) x261001 x261002) else (none))) else (none)) else (none)) else (some (x261000, x261001, x261002))
def impl_cloneHeap.f (k : Nat) (l0_0 : List (List Int)) (l0_1 : List Bool) (l0_2 : List Int) : Option ((List (List Int)) × List Bool × List Int) := (slices_Clone_bool_bool.f l0_1).bind fun t254 => ((slices_Clone_int_int.f l0_2).bind fun t257 => (impl_cloneHeap.l0 k l0_0 (l0_0.length : Int) 0 ([] : List (List Int)) t254 t257))
theorem impl_cloneHeap.mono_l : ∀ k, (∀ y0 y1 y2 y3 y4 y5, LeO (impl_cloneHeap.l0 k y0 y1 y2 y3 y4 y5) (impl_cloneHeap.l0 (k + 1) y0 y1 y2 y3 y4 y5))
 | 0 => fun _ _ _ _ _ _ r h => by simp [impl_cloneHeap.l0] at h
 | k + 1 => by
  have ih0 := impl_cloneHeap.mono_l k
  ·intro y0 y1 y2 y3 y4 y5
   unfold impl_cloneHeap.l0
   repeat' first
   | (with_reducible exact ih0 _ _ _ _ _ _)
   | (with_reducible exact LeO.refl _)
   | (with_reducible exact LeO.none _)
   | (with_reducible refine LeO.ite ?_ ?_)
   | (with_reducible refine LeO.bind ?_ (fun _ => ?_))
   | exact ih0 _ _ _ _ _ _
   | exact LeO.none _
   | refine LeO.ite ?_ ?_
   | refine LeO.bind ?_ (fun _ => ?_)
theorem impl_cloneHeap.mono : ∀ a0 a1 a2 k, LeO (impl_cloneHeap.f k a0 a1 a2) (impl_cloneHeap.f (k + 1) a0 a1 a2) := by
 intro a0 a1 a2 k
 have ih0 := impl_cloneHeap.mono_l k
 unfold impl_cloneHeap.f
 repeat' first
   | (with_reducible exact ih0 _ _ _ _ _ _)
   | (with_reducible exact LeO.refl _)
   | (with_reducible exact LeO.none _)
   | (with_reducible refine LeO.ite ?_ ?_)
   | (with_reducible refine LeO.bind ?_ (fun _ => ?_))
   | exact ih0 _ _ _ _ _ _
   | exact LeO.none _
   | refine LeO.ite ?_ ?_
   | refine LeO.bind ?_ (fun _ => ?_)
def impl_cloneHeap.T1 : Bool × List (List Nat × List Nat) := (true, [([], []), ([0], [0]), ([1], [1]), ([], []), ([3], [3]), ([4, 2], [4]), ([2, 5], [2, 5]), ([], []), ([7, 6, 5, 0, 1, 2, 3, 4, 5, 6, 7], [6, 7])])
def impl_cloneHeap.B1 : List Nat := [0, 1, 3, 0, 8, 31, 63, 0, 255]
theorem impl_cloneHeap.tab1 : rtab .any (opsOf Try.f74 1) = impl_cloneHeap.T1 := by kernel_rfl
theorem impl_cloneHeap.bits1 : waitsOk impl_cloneHeap.T1.2 impl_cloneHeap.B1 = true := by kernel_rfl
def impl_cloneHeap.T5 : Bool × List (List Nat × List Nat) := (true, [([], []), ([0], [0]), ([], []), ([2], [2]), ([3], [3]), ([1, 4, 3], [1, 4]), ([0, 1, 2, 3, 4, 5], []), ([6, 5, 5, 0, 1, 2, 3, 4, 5], [5, 6])])
def impl_cloneHeap.B5 : List Nat := [0, 1, 0, 4, 12, 31, 63, 127]
theorem impl_cloneHeap.tab5 : rtab .any (opsOf Try.f74 5) = impl_cloneHeap.T5 := by kernel_rfl
theorem impl_cloneHeap.bits5 : waitsOk impl_cloneHeap.T5.2 impl_cloneHeap.B5 = true := by kernel_rfl
set_option maxHeartbeats 8000000 in
set_option maxRecDepth 100000 in
theorem impl_cloneHeap.calls (k : Nat) (A0_0 : Option Addr) (c0_0 : Nat) (l0_0 : List (List Int)) (A0_1 : Option Addr) (c0_1 : Nat) (l0_1 : List Bool) (A0_2 : Option Addr) (c0_2 : Nat) (l0_2 : List Int) (r1 : List (List Int)) (r2 : List Bool) (r3 : List Int) (w : World) (hr0_0 : Kd.C (Kd.slice 3 (Kd.int .i64)) w A0_0 l0_0.length l0_0) (hc0_0 : l0_0.length ≤ c0_0) (hr0_1 : Kd.C Kd.bool w A0_1 l0_1.length l0_1) (hc0_1 : l0_1.length ≤ c0_1) (hr0_2 : Kd.C (Kd.int .i64) w A0_2 l0_2.length l0_2) (hc0_2 : l0_2.length ≤ c0_2) (h : impl_cloneHeap.f k l0_0 l0_1 l0_2 = some (r1, r2, r3)) :
  Calls Try.prog 74 #[.agg #[.slice A0_0 l0_0.length c0_0, .slice A0_1 l0_1.length c0_1, .slice A0_2 l0_2.length c0_2]] w fun e w' => ∃ v0_ v1_ v2_ : Value, e = .returned (.agg #[v0_, v1_, v2_]) ∧ Kd.S (Kd.slice 3 (Kd.int .i64)) 24 w' w.heap.size (fun k_ => some k_ ≠ (v2_ : Value).ownBlock) v0_ r1 ∧ Kd.R Kd.bool 4 w' w.heap.size (fun _ => True) v1_ r2 ∧ Kd.R (Kd.int .i64) 3 w' w.heap.size (fun _ => True) v2_ r3 ∧ Below w.heap.size w w' := by
 have hu30 := Try.underlying30
 have HR0_0 := qm_ hr0_0
 have HC0_0 := qm_ hc0_0
 clear hr0_0 hc0_0
 have HR0_1 := qm_ hr0_1
 have HC0_1 := qm_ hc0_1
 clear hr0_1 hc0_1
 have HR0_2 := qm_ hr0_2
 have HC0_2 := qm_ hc0_2
 clear hr0_2 hc0_2
 have HB := qm_ (Below.refl w.heap.size w)
 have H : ((slices_Clone_bool_bool.f l0_1).bind fun t254 => ((slices_Clone_int_int.f l0_2).bind fun t257 => (impl_cloneHeap.l0 k l0_0 (l0_0.length : Int) 0 ([] : List (List Int)) t254 t257))) = some (r1, r2, r3) := h
 clear h
 replace H := Option.bind_eq_some_iff.mp H
 obtain ⟨t254, A20, H⟩ := H
 replace H : ((slices_Clone_int_int.f l0_2).bind fun t257 => (impl_cloneHeap.l0 k l0_0 (l0_0.length : Int) 0 ([] : List (List Int)) t254 t257)) = some (r1, r2, r3) := H
 have A2 := qm_ A20
 clear A20
 replace H := Option.bind_eq_some_iff.mp H
 obtain ⟨t257, A30, H⟩ := H
 replace H : (impl_cloneHeap.l0 k l0_0 (l0_0.length : Int) 0 ([] : List (List Int)) t254 t257) = some (r1, r2, r3) := H
 have A3 := qm_ A30
 clear A30
 have H' := qm_ H
 clear H
 go_enter Try.func74, Try.ntmps74
 try go_wp2_with (first | ((with_reducible refine gate_dst (N := 1) rfl ?_); refine box_event ?hg (N := 1) ?hd (cs := #[.slice A0_0 l0_0.length c0_0, .slice A0_1 l0_1.length c0_1, .slice A0_2 l0_2.length c0_2]) (t := 30) ?hr ?_; (case hd => rfl); (case hg => rfl); (case hr => first | (go_simp; done) | (go_simp; rfl)); intro gb252 hg w4 hbox hb; have n0_ := qm_ (qh_ (by repeat (first | (with_reducible first | exact HB.out | apply qc_ | apply qx_ | apply qf_) | exact HB.out)) hb); have n1_ := qm_ (hbox); have n2_ := qm_ ((by rw [hg]; exact (qz_ (by repeat (first | (with_reducible first | exact HB.out | apply qc_ | apply qx_ | apply qf_) | exact HB.out))) : w.heap.size ≤ gb252)); have n3_ := qm_ ((by rw [hg]; exact (qz_ (by repeat (first | (with_reducible first | exact HB.out | apply qc_ | apply qx_ | apply qf_) | exact HB.out))) : w.heap.size ≤ gb252)); clear HB; have HB := n0_; have BK252 := n1_; have GW252 := n2_; have GE252 := n3_; clear n0_ n1_ n2_ n3_; clear hb hbox hg) | ((with_reducible refine gate_dst (N := 2) rfl ?_); refine box_event ?hg (N := 2) ?hd (cs := #[.slice none 0 0, .slice none 0 0, .slice none 0 0]) (t := 30) ?hr ?_; (case hd => rfl); (case hg => rfl); (case hr => first | (go_simp; done) | (go_simp; rfl)); intro gb253 hg w5 hbox hb; have n0_ := qm_ (qs_ (g := gb252) (o := .cells #[.slice A0_0 l0_0.length c0_0, .slice A0_1 l0_1.length c0_1, .slice A0_2 l0_2.length c0_2] 30 (0, 0)) (by first | with_reducible exact BK252.out | with_reducible exact qu_ BK252.out _ | exact BK252.out | exact qw_ BK252.out _) hb); have n1_ := qm_ (qh_ (by repeat (first | (with_reducible first | exact HB.out | apply qc_ | apply qx_ | apply qf_ | refine qg_ ?_ GE252.out) | exact HB.out)) hb); have n2_ := qm_ (hbox); have n3_ := qm_ ((by rw [hg]; exact (qz_ (by repeat (first | (with_reducible first | exact HB.out | apply qc_ | apply qx_ | apply qf_ | refine qg_ ?_ GE252.out) | exact HB.out))) : w.heap.size ≤ gb253)); have n4_ := qm_ ((by rw [hg]; exact (qz_ (by repeat (first | (with_reducible first | exact HB.out | apply qc_ | apply qx_ | apply qf_ | refine qg_ ?_ GE252.out) | exact HB.out))) : w.heap.size ≤ gb253)); have n5_ := qm_ ((by rw [hg]; exact Nat.ne_of_lt (blk_lt (g := gb252) (o := .cells #[.slice A0_0 l0_0.length c0_0, .slice A0_1 l0_1.length c0_1, .slice A0_2 l0_2.length c0_2] 30 (0, 0)) (by first | with_reducible exact BK252.out | with_reducible exact qu_ BK252.out _ | exact BK252.out | exact qw_ BK252.out _)) : gb252 ≠ gb253)); have n6_ := qm_ ((by rw [hg]; exact Nat.ne_of_gt (blk_lt (g := gb252) (o := .cells #[.slice A0_0 l0_0.length c0_0, .slice A0_1 l0_1.length c0_1, .slice A0_2 l0_2.length c0_2] 30 (0, 0)) (by first | with_reducible exact BK252.out | with_reducible exact qu_ BK252.out _ | exact BK252.out | exact qw_ BK252.out _)) : gb253 ≠ gb252)); clear BK252; clear HB; have BK252 := n0_; have HB := n1_; have BK253 := n2_; have GW253 := n3_; have GE253 := n4_; have NB252_253 := n5_; have NB253_252 := n6_; clear n0_ n1_ n2_ n3_ n4_ n5_ n6_; clear hb hbox hg))
 have n0_ := qm_ (qv_ BK252.out)
 have n1_ := qm_ (qv_ BK253.out)
 have n2_ := qm_ (qf_ HB.out)
 clear BK252
 clear BK253
 clear HB
 have BK252 := n0_
 have BK253 := n1_
 have HB := n2_
 clear n0_ n1_ n2_
 refine start_ (n := 9) (S := fun w' => w'.cell? ⟨gb252, 0, none⟩ = some (.slice A0_0 l0_0.length c0_0) ∧ w'.cell? ⟨gb252, 1, none⟩ = some (.slice A0_1 l0_1.length c0_1) ∧ w'.cell? ⟨gb252, 2, none⟩ = some (.slice A0_2 l0_2.length c0_2)) (ds := []) #[false, false, false, false, false, false, false, false, false] (by kernel_rfl) rfl rfl ⟨(blk_cell BK252.out 0).trans rfl, (blk_cell BK252.out 1).trans rfl, (blk_cell BK252.out 2).trans rfl⟩ (fun hHeld => ?_); refine with_tabW impl_cloneHeap.tab1 impl_cloneHeap.bits1 (fun HT_ HW_ => ?_)
 generalize w5.drew = w6 at BK252 BK253 HB hHeld ⊢
 refine pure_ (i := 0) (N := some 6) (v := ?_) (a' := ?_) #[true, false, false, false, false, false, false, false, false] rfl rfl (any_of HT_.out (by kernel_rfl)) (fun _ _ _ h => h) (Or.inl ⟨by rfl, ?_⟩) ?_ ?_
 rotate_left
 ·intro w'
  go_simp
  with_reducible rfl
 rotate_left
 ·simp only [Act.put, la_, lb_, lc_, i64_w, i32_w]
  rfl
 refine pure_ (i := 3) (N := some 9) (v := ?_) (a' := ?_) #[true, false, false, true, false, false, false, false, false] rfl rfl (any_of HT_.out (by kernel_rfl)) (fun _ _ _ h => h) (Or.inl ⟨by rfl, ?_⟩) ?_ ?_
 rotate_left
 ·intro w'
  go_simp
  with_reducible rfl
 rotate_left
 ·simp only [Act.put, la_, lb_, lc_, i64_w, i32_w]
  rfl
 refine take_ (i := 1) (N := some 7) (v := ?_) (a' := ?_) #[true, true, false, true, false, false, false, false, false] rfl rfl (take_ofW HT_.out HW_.out (by kernel_rfl)) (fun _ _ _ h => h) (Or.inl ⟨by rfl, ?_⟩) hHeld ?_ ?_
 rotate_left
 ·rintro w' ⟨s0, s1, s2⟩
  go_simp
  with_reducible rfl
 rotate_left
 ·simp only [Act.put, la_, lb_, lc_, i64_w, i32_w]
  rfl
 refine take_ (i := 4) (N := some 10) (v := ?_) (a' := ?_) #[true, true, false, true, true, false, false, false, false] rfl rfl (take_ofW HT_.out HW_.out (by kernel_rfl)) (fun _ _ _ h => h) (Or.inl ⟨by rfl, ?_⟩) hHeld ?_ ?_
 rotate_left
 ·rintro w' ⟨s0, s1, s2⟩
  go_simp
  with_reducible rfl
 rotate_left
 ·simp only [Act.put, la_, lb_, lc_, i64_w, i32_w]
  rfl
 refine join_ (σ := Value × Value × Nat) 1 #[true, true, true, true, true, true, true, true, false] (fun s_ => [(8, s_.1), (11, s_.2.1), (3, .pointer (some ⟨s_.2.2, 0, none⟩)), (12, .agg #[.slice none 0 0, s_.1, s_.2.1])]) (fun s_ w' => (w'.cell? ⟨gb252, 0, none⟩ = some (.slice A0_0 l0_0.length c0_0) ∧ w'.cell? ⟨gb252, 1, none⟩ = some (.slice A0_1 l0_1.length c0_1) ∧ w'.cell? ⟨gb252, 2, none⟩ = some (.slice A0_2 l0_2.length c0_2)) ∧ (Kd.R Kd.bool 4 w' w.heap.size (fun _ => True) s_.1 t254) ∧ (Kd.R (Kd.int .i64) 3 w' w.heap.size (fun _ => True) s_.2.1 t257) ∧ (w'.heap[gb252]? = some (.cells #[.slice A0_0 l0_0.length c0_0, .slice A0_1 l0_1.length c0_1, .slice A0_2 l0_2.length c0_2] 30 (0, 0))) ∧ (w'.heap[gb253]? = some (.cells #[.slice none 0 0, .slice none 0 0, .slice none 0 0] 30 (0, 0))) ∧ (w'.heap[s_.2.2]? = some (.cells #[.slice none 0 0, .slice none 0 0, .slice none 0 0] 30 (0, 0))) ∧ (w.heap.size ≤ s_.2.2) ∧ (w.heap.size ≤ s_.2.2) ∧ (gb252 ≠ s_.2.2) ∧ (s_.2.2 ≠ gb252) ∧ (gb253 ≠ s_.2.2) ∧ (s_.2.2 ≠ gb253) ∧ (Below w.heap.size w w')) ?_ ?_
 rotate_left
 ·intro hCont
  refine two_ (i := 2) (j := 7) (Ni := some 8) (Nj := some 3) #[true, true, true, true, true, false, false, false, false] #[true, true, false, true, true, false, false, true, false] rfl rfl rfl rfl (two_of HT_.out (by kernel_rfl)) (by decide) (by decide) (fun K hK => ?_) (fun K hK => ?_)
  ·skip
   refine goes_ Try.func107 (by kernel_rfl) rfl #[.slice A0_1 l0_1.length c0_1] (by rfl) rfl rfl (by (try simp only [List.map_toArray, List.map_cons, List.map_nil]); first | done | rfl | (simp only [List.length_drop, List.length_take]; rfl)) ?_
   with_reducible refine (slices_Clone_bool_bool.calls _ _ l0_1 t254 _ ?side1 ?side2 A2.out).mono ?_
   (case side1 => repeat (first | exact (Kd.C_below HR0_1.out HB.out) | (with_reducible refine Kd.C_alloc ?_ _) | (with_reducible refine Kd.C_drewN ?_ _) | (with_reducible refine Kd.C_drew ?_)))
   (case side2 => exact HC0_1.out)
   rintro e w7 ⟨v255, rfl, ho0, hb⟩
   refine ⟨_, rfl, ?_⟩
   have n0_ := qm_ (ql_ ho0 (qz_ (by repeat (first | (with_reducible first | exact HB.out | apply qc_ | apply qx_ | apply qf_ | refine qg_ ?_ GE252.out | refine qg_ ?_ GE253.out) | exact HB.out))))
   have n1_ := qm_ (qs_ (g := gb252) (o := .cells #[.slice A0_0 l0_0.length c0_0, .slice A0_1 l0_1.length c0_1, .slice A0_2 l0_2.length c0_2] 30 (0, 0)) (by first | with_reducible exact BK252.out | with_reducible exact qu_ BK252.out _ | exact BK252.out | exact qw_ BK252.out _) hb)
   have n2_ := qm_ (qs_ (g := gb253) (o := .cells #[.slice none 0 0, .slice none 0 0, .slice none 0 0] 30 (0, 0)) (by first | with_reducible exact BK253.out | with_reducible exact qu_ BK253.out _ | exact BK253.out | exact qw_ BK253.out _) hb)
   have n3_ := qm_ (qh_ (by repeat (first | (with_reducible first | exact HB.out | apply qc_ | apply qx_ | apply qf_ | refine qg_ ?_ GE252.out | refine qg_ ?_ GE253.out) | exact HB.out)) hb)
   clear BK252
   clear BK253
   clear HB
   have HO256 := n0_
   have BK252 := n1_
   have BK253 := n2_
   have HB := n3_
   clear n0_ n1_ n2_ n3_
   (try clear hb)
   (try clear hb2)
   (try clear hk)
   (try clear hi)
   (try clear ho0)
   refine hK.out _ _ ⟨(blk_cell BK252.out 0).trans rfl, (blk_cell BK252.out 1).trans rfl, (blk_cell BK252.out 2).trans rfl⟩ (fun hHeld => ?_)
   clear hK K
   refine norm_ (a' := ?_) ?_ ?_
   rotate_left
   ·show Act.put _ (some 8) _ = _
    simp only [Act.put, la_, lb_, lc_, i64_w, i32_w]
    rfl
   refine two_ (i := 5) (j := 7) (Ni := some 11) (Nj := some 3) #[true, true, true, true, true, true, false, false, false] #[true, true, true, true, true, false, false, true, false] rfl rfl rfl rfl (two_of HT_.out (by kernel_rfl)) (by decide) (by decide) (fun K hK => ?_) (fun K hK => ?_)
   ·skip
    refine goes_ Try.func80 (by kernel_rfl) rfl #[.slice A0_2 l0_2.length c0_2] (by rfl) rfl rfl (by (try simp only [List.map_toArray, List.map_cons, List.map_nil]); first | done | rfl | (simp only [List.length_drop, List.length_take]; rfl)) ?_
    with_reducible refine (slices_Clone_int_int.calls _ _ l0_2 t257 _ ?side1 ?side2 A3.out).mono ?_
    (case side1 => repeat (first | exact (Kd.C_below HR0_2.out HB.out) | (with_reducible refine Kd.C_alloc ?_ _) | (with_reducible refine Kd.C_drewN ?_ _) | (with_reducible refine Kd.C_drew ?_)))
    (case side2 => exact HC0_2.out)
    rintro e w8 ⟨v258, rfl, ho0, hb⟩
    refine ⟨_, rfl, ?_⟩
    have n0_ := qm_ (qb_ (by (with_reducible repeat (first | apply qa_ | apply qn_ | apply qd_)); exact HO256.out) hb)
    have n1_ := qm_ (ql_ ho0 (qz_ (by repeat (first | (with_reducible first | exact HB.out | apply qc_ | apply qx_ | apply qf_ | refine qg_ ?_ GE252.out | refine qg_ ?_ GE253.out) | exact HB.out))))
    have n2_ := qm_ (qs_ (g := gb252) (o := .cells #[.slice A0_0 l0_0.length c0_0, .slice A0_1 l0_1.length c0_1, .slice A0_2 l0_2.length c0_2] 30 (0, 0)) (by first | with_reducible exact BK252.out | with_reducible exact qu_ BK252.out _ | exact BK252.out | exact qw_ BK252.out _) hb)
    have n3_ := qm_ (qs_ (g := gb253) (o := .cells #[.slice none 0 0, .slice none 0 0, .slice none 0 0] 30 (0, 0)) (by first | with_reducible exact BK253.out | with_reducible exact qu_ BK253.out _ | exact BK253.out | exact qw_ BK253.out _) hb)
    have n4_ := qm_ (qh_ (by repeat (first | (with_reducible first | exact HB.out | apply qc_ | apply qx_ | apply qf_ | refine qg_ ?_ GE252.out | refine qg_ ?_ GE253.out) | exact HB.out)) hb)
    clear HO256
    clear BK252
    clear BK253
    clear HB
    have HO256 := n0_
    have HO259 := n1_
    have BK252 := n2_
    have BK253 := n3_
    have HB := n4_
    clear n0_ n1_ n2_ n3_ n4_
    (try clear hb)
    (try clear hb2)
    (try clear hk)
    (try clear hi)
    (try clear ho0)
    obtain ⟨Ao9, co9, eo9⟩ := Kd.R_slice HO259.out
    (first | subst eo9 | (injection eo9 with f1_ f2_ f3_; have f4_ := f1_.symm; have f5_ := f3_.symm; clear f1_ f2_ f3_; subst f4_; subst f5_))
    obtain ⟨Ao10, co10, eo10⟩ := Kd.R_slice HO256.out
    (first | subst eo10 | (injection eo10 with f1_ f2_ f3_; have f4_ := f1_.symm; have f5_ := f3_.symm; clear f1_ f2_ f3_; subst f4_; subst f5_))
    refine hK.out _ _ ⟨(blk_cell BK252.out 0).trans rfl, (blk_cell BK252.out 1).trans rfl, (blk_cell BK252.out 2).trans rfl⟩ (fun hHeld => ?_)
    clear hK K
    refine norm_ (a' := ?_) ?_ ?_
    rotate_left
    ·show Act.put _ (some 11) _ = _
     simp only [Act.put, la_, lb_, lc_, i64_w, i32_w]
     rfl
    refine pure_ (i := 6) (N := some 12) (v := ?_) (a' := ?_) #[true, true, true, true, true, true, true, false, false] rfl rfl (any_of HT_.out (by kernel_rfl)) (fun _ _ _ h => h) (Or.inl ⟨by rfl, ?_⟩) ?_ ?_
    rotate_left
    ·intro w'
     go_simp
     with_reducible rfl
    rotate_left
    ·simp only [Act.put, la_, lb_, lc_, i64_w, i32_w]
     rfl
    refine one_ (i := 7) (N := some 3) #[true, true, true, true, true, true, true, true, false] rfl rfl (one_of HT_.out (by kernel_rfl)) (by decide) (fun K hK => ?_)
    refine box_step ?hg (N := 3) ?hd (cs := #[.slice none 0 0, .slice none 0 0, .slice none 0 0]) (t := 30) ?hr ?_; (case hd => rfl); (case hg => rfl); (case hr => first | (go_simp; done) | (go_simp; rfl))
    intro gb260 hg w11 hbox hb
    have n0_ := qm_ (qb_ (by (with_reducible repeat (first | apply qa_ | apply qn_ | apply qd_)); exact HO256.out) hb)
    have n1_ := qm_ (qb_ (by (with_reducible repeat (first | apply qa_ | apply qn_ | apply qd_)); exact HO259.out) hb)
    have n2_ := qm_ (qs_ (g := gb252) (o := .cells #[.slice A0_0 l0_0.length c0_0, .slice A0_1 l0_1.length c0_1, .slice A0_2 l0_2.length c0_2] 30 (0, 0)) (by first | with_reducible exact BK252.out | with_reducible exact qu_ BK252.out _ | exact BK252.out | exact qw_ BK252.out _) hb)
    have n3_ := qm_ (qs_ (g := gb253) (o := .cells #[.slice none 0 0, .slice none 0 0, .slice none 0 0] 30 (0, 0)) (by first | with_reducible exact BK253.out | with_reducible exact qu_ BK253.out _ | exact BK253.out | exact qw_ BK253.out _) hb)
    have n4_ := qm_ (qh_ (by repeat (first | (with_reducible first | exact HB.out | apply qc_ | apply qx_ | apply qf_ | refine qg_ ?_ GE252.out | refine qg_ ?_ GE253.out) | exact HB.out)) hb)
    have n5_ := qm_ (hbox)
    have n6_ := qm_ ((by rw [hg]; exact (qz_ (by repeat (first | (with_reducible first | exact HB.out | apply qc_ | apply qx_ | apply qf_ | refine qg_ ?_ GE252.out | refine qg_ ?_ GE253.out) | exact HB.out))) : w.heap.size ≤ gb260))
    have n7_ := qm_ ((by rw [hg]; exact (qz_ (by repeat (first | (with_reducible first | exact HB.out | apply qc_ | apply qx_ | apply qf_ | refine qg_ ?_ GE252.out | refine qg_ ?_ GE253.out) | exact HB.out))) : w.heap.size ≤ gb260))
    have n8_ := qm_ ((by rw [hg]; exact Nat.ne_of_lt (blk_lt (g := gb252) (o := .cells #[.slice A0_0 l0_0.length c0_0, .slice A0_1 l0_1.length c0_1, .slice A0_2 l0_2.length c0_2] 30 (0, 0)) (by first | with_reducible exact BK252.out | with_reducible exact qu_ BK252.out _ | exact BK252.out | exact qw_ BK252.out _)) : gb252 ≠ gb260))
    have n9_ := qm_ ((by rw [hg]; exact Nat.ne_of_gt (blk_lt (g := gb252) (o := .cells #[.slice A0_0 l0_0.length c0_0, .slice A0_1 l0_1.length c0_1, .slice A0_2 l0_2.length c0_2] 30 (0, 0)) (by first | with_reducible exact BK252.out | with_reducible exact qu_ BK252.out _ | exact BK252.out | exact qw_ BK252.out _)) : gb260 ≠ gb252))
    have n10_ := qm_ ((by rw [hg]; exact Nat.ne_of_lt (blk_lt (g := gb253) (o := .cells #[.slice none 0 0, .slice none 0 0, .slice none 0 0] 30 (0, 0)) (by first | with_reducible exact BK253.out | with_reducible exact qu_ BK253.out _ | exact BK253.out | exact qw_ BK253.out _)) : gb253 ≠ gb260))
    have n11_ := qm_ ((by rw [hg]; exact Nat.ne_of_gt (blk_lt (g := gb253) (o := .cells #[.slice none 0 0, .slice none 0 0, .slice none 0 0] 30 (0, 0)) (by first | with_reducible exact BK253.out | with_reducible exact qu_ BK253.out _ | exact BK253.out | exact qw_ BK253.out _)) : gb260 ≠ gb253))
    clear HO256
    clear HO259
    clear BK252
    clear BK253
    clear HB
    have HO256 := n0_
    have HO259 := n1_
    have BK252 := n2_
    have BK253 := n3_
    have HB := n4_
    have BK260 := n5_
    have GW260 := n6_
    have GE260 := n7_
    have NB252_260 := n8_
    have NB260_252 := n9_
    have NB253_260 := n10_
    have NB260_253 := n11_
    clear n0_ n1_ n2_ n3_ n4_ n5_ n6_ n7_ n8_ n9_ n10_ n11_
    clear hb hbox hg
    refine hK.out _ _ ⟨(blk_cell BK252.out 0).trans rfl, (blk_cell BK252.out 1).trans rfl, (blk_cell BK252.out 2).trans rfl⟩ (fun hHeld => ?_)
    clear hK K
    refine norm_ (a' := ?_) ?_ ?_
    rotate_left
    ·show Act.put _ (some 3) _ = _
     simp only [Act.put, la_, lb_, lc_, i64_w, i32_w]
     rfl
    exact norm_ (by simp only [putAll, Act.put, la_, lb_, lc_]) (hCont (.slice Ao10 t254.length co10, .slice Ao9 t257.length co9, gb260) _ ⟨hHeld, (by (with_reducible repeat (first | apply qa_ | apply qn_ | apply qd_)); exact HO256.out), (by (with_reducible repeat (first | apply qa_ | apply qn_ | apply qd_)); exact HO259.out), (by first | with_reducible exact BK252.out | with_reducible exact qu_ BK252.out _ | exact BK252.out | exact qw_ BK252.out _), (by first | with_reducible exact BK253.out | with_reducible exact qu_ BK253.out _ | exact BK253.out | exact qw_ BK253.out _), (by first | with_reducible exact BK260.out | with_reducible exact qu_ BK260.out _ | exact BK260.out | exact qw_ BK260.out _), GW260.out, GE260.out, NB252_260.out, NB260_252.out, NB253_260.out, NB260_253.out, (by repeat (first | (with_reducible first | exact HB.out | apply qc_ | apply qx_ | apply qf_ | refine qg_ ?_ GE252.out | refine qg_ ?_ GE253.out | refine qg_ ?_ GE260.out) | exact HB.out))⟩)
   ·skip
    refine box_step ?hg (N := 3) ?hd (cs := #[.slice none 0 0, .slice none 0 0, .slice none 0 0]) (t := 30) ?hr ?_; (case hd => rfl); (case hg => rfl); (case hr => first | (go_simp; done) | (go_simp; rfl))
    intro gb260 hg w8 hbox hb
    have n0_ := qm_ (qb_ (by (with_reducible repeat (first | apply qa_ | apply qn_ | apply qd_)); exact HO256.out) hb)
    have n1_ := qm_ (qs_ (g := gb252) (o := .cells #[.slice A0_0 l0_0.length c0_0, .slice A0_1 l0_1.length c0_1, .slice A0_2 l0_2.length c0_2] 30 (0, 0)) (by first | with_reducible exact BK252.out | with_reducible exact qu_ BK252.out _ | exact BK252.out | exact qw_ BK252.out _) hb)
    have n2_ := qm_ (qs_ (g := gb253) (o := .cells #[.slice none 0 0, .slice none 0 0, .slice none 0 0] 30 (0, 0)) (by first | with_reducible exact BK253.out | with_reducible exact qu_ BK253.out _ | exact BK253.out | exact qw_ BK253.out _) hb)
    have n3_ := qm_ (qh_ (by repeat (first | (with_reducible first | exact HB.out | apply qc_ | apply qx_ | apply qf_ | refine qg_ ?_ GE252.out | refine qg_ ?_ GE253.out) | exact HB.out)) hb)
    have n4_ := qm_ (hbox)
    have n5_ := qm_ ((by rw [hg]; exact (qz_ (by repeat (first | (with_reducible first | exact HB.out | apply qc_ | apply qx_ | apply qf_ | refine qg_ ?_ GE252.out | refine qg_ ?_ GE253.out) | exact HB.out))) : w.heap.size ≤ gb260))
    have n6_ := qm_ ((by rw [hg]; exact (qz_ (by repeat (first | (with_reducible first | exact HB.out | apply qc_ | apply qx_ | apply qf_ | refine qg_ ?_ GE252.out | refine qg_ ?_ GE253.out) | exact HB.out))) : w.heap.size ≤ gb260))
    have n7_ := qm_ ((by rw [hg]; exact Nat.ne_of_lt (blk_lt (g := gb252) (o := .cells #[.slice A0_0 l0_0.length c0_0, .slice A0_1 l0_1.length c0_1, .slice A0_2 l0_2.length c0_2] 30 (0, 0)) (by first | with_reducible exact BK252.out | with_reducible exact qu_ BK252.out _ | exact BK252.out | exact qw_ BK252.out _)) : gb252 ≠ gb260))
    have n8_ := qm_ ((by rw [hg]; exact Nat.ne_of_gt (blk_lt (g := gb252) (o := .cells #[.slice A0_0 l0_0.length c0_0, .slice A0_1 l0_1.length c0_1, .slice A0_2 l0_2.length c0_2] 30 (0, 0)) (by first | with_reducible exact BK252.out | with_reducible exact qu_ BK252.out _ | exact BK252.out | exact qw_ BK252.out _)) : gb260 ≠ gb252))
    have n9_ := qm_ ((by rw [hg]; exact Nat.ne_of_lt (blk_lt (g := gb253) (o := .cells #[.slice none 0 0, .slice none 0 0, .slice none 0 0] 30 (0, 0)) (by first | with_reducible exact BK253.out | with_reducible exact qu_ BK253.out _ | exact BK253.out | exact qw_ BK253.out _)) : gb253 ≠ gb260))
    have n10_ := qm_ ((by rw [hg]; exact Nat.ne_of_gt (blk_lt (g := gb253) (o := .cells #[.slice none 0 0, .slice none 0 0, .slice none 0 0] 30 (0, 0)) (by first | with_reducible exact BK253.out | with_reducible exact qu_ BK253.out _ | exact BK253.out | exact qw_ BK253.out _)) : gb260 ≠ gb253))
    clear HO256
    clear BK252
    clear BK253
    clear HB
    have HO256 := n0_
    have BK252 := n1_
    have BK253 := n2_
    have HB := n3_
    have BK260 := n4_
    have GW260 := n5_
    have GE260 := n6_
    have NB252_260 := n7_
    have NB260_252 := n8_
    have NB253_260 := n9_
    have NB260_253 := n10_
    clear n0_ n1_ n2_ n3_ n4_ n5_ n6_ n7_ n8_ n9_ n10_
    clear hb hbox hg
    refine hK.out _ _ ⟨(blk_cell BK252.out 0).trans rfl, (blk_cell BK252.out 1).trans rfl, (blk_cell BK252.out 2).trans rfl⟩ (fun hHeld => ?_)
    clear hK K
    refine norm_ (a' := ?_) ?_ ?_
    rotate_left
    ·show Act.put _ (some 3) _ = _
     simp only [Act.put, la_, lb_, lc_, i64_w, i32_w]
     rfl
    refine one_ (i := 5) (N := some 11) #[true, true, true, true, true, true, false, true, false] rfl rfl (one_of HT_.out (by kernel_rfl)) (by decide) (fun K hK => ?_)
    refine goes_ Try.func80 (by kernel_rfl) rfl #[.slice A0_2 l0_2.length c0_2] (by rfl) rfl rfl (by (try simp only [List.map_toArray, List.map_cons, List.map_nil]); first | done | rfl | (simp only [List.length_drop, List.length_take]; rfl)) ?_
    with_reducible refine (slices_Clone_int_int.calls _ _ l0_2 t257 _ ?side1 ?side2 A3.out).mono ?_
    (case side1 => repeat (first | exact (Kd.C_below HR0_2.out HB.out) | (with_reducible refine Kd.C_alloc ?_ _) | (with_reducible refine Kd.C_drewN ?_ _) | (with_reducible refine Kd.C_drew ?_)))
    (case side2 => exact HC0_2.out)
    rintro e w9 ⟨v258, rfl, ho0, hb⟩
    refine ⟨_, rfl, ?_⟩
    have n0_ := qm_ (qb_ (by (with_reducible repeat (first | apply qa_ | apply qn_ | apply qd_)); exact HO256.out) hb)
    have n1_ := qm_ (ql_ ho0 (qz_ (by repeat (first | (with_reducible first | exact HB.out | apply qc_ | apply qx_ | apply qf_ | refine qg_ ?_ GE252.out | refine qg_ ?_ GE253.out | refine qg_ ?_ GE260.out) | exact HB.out))))
    have n2_ := qm_ (qs_ (g := gb252) (o := .cells #[.slice A0_0 l0_0.length c0_0, .slice A0_1 l0_1.length c0_1, .slice A0_2 l0_2.length c0_2] 30 (0, 0)) (by first | with_reducible exact BK252.out | with_reducible exact qu_ BK252.out _ | exact BK252.out | exact qw_ BK252.out _) hb)
    have n3_ := qm_ (qs_ (g := gb253) (o := .cells #[.slice none 0 0, .slice none 0 0, .slice none 0 0] 30 (0, 0)) (by first | with_reducible exact BK253.out | with_reducible exact qu_ BK253.out _ | exact BK253.out | exact qw_ BK253.out _) hb)
    have n4_ := qm_ (qs_ (g := gb260) (o := .cells #[.slice none 0 0, .slice none 0 0, .slice none 0 0] 30 (0, 0)) (by first | with_reducible exact BK260.out | with_reducible exact qu_ BK260.out _ | exact BK260.out | exact qw_ BK260.out _) hb)
    have n5_ := qm_ (qh_ (by repeat (first | (with_reducible first | exact HB.out | apply qc_ | apply qx_ | apply qf_ | refine qg_ ?_ GE252.out | refine qg_ ?_ GE253.out | refine qg_ ?_ GE260.out) | exact HB.out)) hb)
    clear HO256
    clear BK252
    clear BK253
    clear BK260
    clear HB
    have HO256 := n0_
    have HO259 := n1_
    have BK252 := n2_
    have BK253 := n3_
    have BK260 := n4_
    have HB := n5_
    clear n0_ n1_ n2_ n3_ n4_ n5_
    (try clear hb)
    (try clear hb2)
    (try clear hk)
    (try clear hi)
    (try clear ho0)
    obtain ⟨Ao10, co10, eo10⟩ := Kd.R_slice HO259.out
    (first | subst eo10 | (injection eo10 with f1_ f2_ f3_; have f4_ := f1_.symm; have f5_ := f3_.symm; clear f1_ f2_ f3_; subst f4_; subst f5_))
    obtain ⟨Ao11, co11, eo11⟩ := Kd.R_slice HO256.out
    (first | subst eo11 | (injection eo11 with f1_ f2_ f3_; have f4_ := f1_.symm; have f5_ := f3_.symm; clear f1_ f2_ f3_; subst f4_; subst f5_))
    refine hK.out _ _ ⟨(blk_cell BK252.out 0).trans rfl, (blk_cell BK252.out 1).trans rfl, (blk_cell BK252.out 2).trans rfl⟩ (fun hHeld => ?_)
    clear hK K
    refine norm_ (a' := ?_) ?_ ?_
    rotate_left
    ·show Act.put _ (some 11) _ = _
     simp only [Act.put, la_, lb_, lc_, i64_w, i32_w]
     rfl
    refine pure_ (i := 6) (N := some 12) (v := ?_) (a' := ?_) #[true, true, true, true, true, true, true, true, false] rfl rfl (any_of HT_.out (by kernel_rfl)) (fun _ _ _ h => h) (Or.inl ⟨by rfl, ?_⟩) ?_ ?_
    rotate_left
    ·intro w'
     go_simp
     with_reducible rfl
    rotate_left
    ·simp only [Act.put, la_, lb_, lc_, i64_w, i32_w]
     rfl
    exact norm_ (by simp only [putAll, Act.put, la_, lb_, lc_]) (hCont (.slice Ao11 t254.length co11, .slice Ao10 t257.length co10, gb260) _ ⟨hHeld, (by (with_reducible repeat (first | apply qa_ | apply qn_ | apply qd_)); exact HO256.out), (by (with_reducible repeat (first | apply qa_ | apply qn_ | apply qd_)); exact HO259.out), (by first | with_reducible exact BK252.out | with_reducible exact qu_ BK252.out _ | exact BK252.out | exact qw_ BK252.out _), (by first | with_reducible exact BK253.out | with_reducible exact qu_ BK253.out _ | exact BK253.out | exact qw_ BK253.out _), (by first | with_reducible exact BK260.out | with_reducible exact qu_ BK260.out _ | exact BK260.out | exact qw_ BK260.out _), GW260.out, GE260.out, NB252_260.out, NB260_252.out, NB253_260.out, NB260_253.out, (by repeat (first | (with_reducible first | exact HB.out | apply qc_ | apply qx_ | apply qf_ | refine qg_ ?_ GE252.out | refine qg_ ?_ GE253.out | refine qg_ ?_ GE260.out) | exact HB.out))⟩)
  ·skip
   refine box_step ?hg (N := 3) ?hd (cs := #[.slice none 0 0, .slice none 0 0, .slice none 0 0]) (t := 30) ?hr ?_; (case hd => rfl); (case hg => rfl); (case hr => first | (go_simp; done) | (go_simp; rfl))
   intro gb260 hg w7 hbox hb
   have n0_ := qm_ (qs_ (g := gb252) (o := .cells #[.slice A0_0 l0_0.length c0_0, .slice A0_1 l0_1.length c0_1, .slice A0_2 l0_2.length c0_2] 30 (0, 0)) (by first | with_reducible exact BK252.out | with_reducible exact qu_ BK252.out _ | exact BK252.out | exact qw_ BK252.out _) hb)
   have n1_ := qm_ (qs_ (g := gb253) (o := .cells #[.slice none 0 0, .slice none 0 0, .slice none 0 0] 30 (0, 0)) (by first | with_reducible exact BK253.out | with_reducible exact qu_ BK253.out _ | exact BK253.out | exact qw_ BK253.out _) hb)
   have n2_ := qm_ (qh_ (by repeat (first | (with_reducible first | exact HB.out | apply qc_ | apply qx_ | apply qf_ | refine qg_ ?_ GE252.out | refine qg_ ?_ GE253.out) | exact HB.out)) hb)
   have n3_ := qm_ (hbox)
   have n4_ := qm_ ((by rw [hg]; exact (qz_ (by repeat (first | (with_reducible first | exact HB.out | apply qc_ | apply qx_ | apply qf_ | refine qg_ ?_ GE252.out | refine qg_ ?_ GE253.out) | exact HB.out))) : w.heap.size ≤ gb260))
   have n5_ := qm_ ((by rw [hg]; exact (qz_ (by repeat (first | (with_reducible first | exact HB.out | apply qc_ | apply qx_ | apply qf_ | refine qg_ ?_ GE252.out | refine qg_ ?_ GE253.out) | exact HB.out))) : w.heap.size ≤ gb260))
   have n6_ := qm_ ((by rw [hg]; exact Nat.ne_of_lt (blk_lt (g := gb252) (o := .cells #[.slice A0_0 l0_0.length c0_0, .slice A0_1 l0_1.length c0_1, .slice A0_2 l0_2.length c0_2] 30 (0, 0)) (by first | with_reducible exact BK252.out | with_reducible exact qu_ BK252.out _ | exact BK252.out | exact qw_ BK252.out _)) : gb252 ≠ gb260))
   have n7_ := qm_ ((by rw [hg]; exact Nat.ne_of_gt (blk_lt (g := gb252) (o := .cells #[.slice A0_0 l0_0.length c0_0, .slice A0_1 l0_1.length c0_1, .slice A0_2 l0_2.length c0_2] 30 (0, 0)) (by first | with_reducible exact BK252.out | with_reducible exact qu_ BK252.out _ | exact BK252.out | exact qw_ BK252.out _)) : gb260 ≠ gb252))
   have n8_ := qm_ ((by rw [hg]; exact Nat.ne_of_lt (blk_lt (g := gb253) (o := .cells #[.slice none 0 0, .slice none 0 0, .slice none 0 0] 30 (0, 0)) (by first | with_reducible exact BK253.out | with_reducible exact qu_ BK253.out _ | exact BK253.out | exact qw_ BK253.out _)) : gb253 ≠ gb260))
   have n9_ := qm_ ((by rw [hg]; exact Nat.ne_of_gt (blk_lt (g := gb253) (o := .cells #[.slice none 0 0, .slice none 0 0, .slice none 0 0] 30 (0, 0)) (by first | with_reducible exact BK253.out | with_reducible exact qu_ BK253.out _ | exact BK253.out | exact qw_ BK253.out _)) : gb260 ≠ gb253))
   clear BK252
   clear BK253
   clear HB
   have BK252 := n0_
   have BK253 := n1_
   have HB := n2_
   have BK260 := n3_
   have GW260 := n4_
   have GE260 := n5_
   have NB252_260 := n6_
   have NB260_252 := n7_
   have NB253_260 := n8_
   have NB260_253 := n9_
   clear n0_ n1_ n2_ n3_ n4_ n5_ n6_ n7_ n8_ n9_
   clear hb hbox hg
   refine hK.out _ _ ⟨(blk_cell BK252.out 0).trans rfl, (blk_cell BK252.out 1).trans rfl, (blk_cell BK252.out 2).trans rfl⟩ (fun hHeld => ?_)
   clear hK K
   refine norm_ (a' := ?_) ?_ ?_
   rotate_left
   ·show Act.put _ (some 3) _ = _
    simp only [Act.put, la_, lb_, lc_, i64_w, i32_w]
    rfl
   refine one_ (i := 2) (N := some 8) #[true, true, true, true, true, false, false, true, false] rfl rfl (one_of HT_.out (by kernel_rfl)) (by decide) (fun K hK => ?_)
   refine goes_ Try.func107 (by kernel_rfl) rfl #[.slice A0_1 l0_1.length c0_1] (by rfl) rfl rfl (by (try simp only [List.map_toArray, List.map_cons, List.map_nil]); first | done | rfl | (simp only [List.length_drop, List.length_take]; rfl)) ?_
   with_reducible refine (slices_Clone_bool_bool.calls _ _ l0_1 t254 _ ?side1 ?side2 A2.out).mono ?_
   (case side1 => repeat (first | exact (Kd.C_below HR0_1.out HB.out) | (with_reducible refine Kd.C_alloc ?_ _) | (with_reducible refine Kd.C_drewN ?_ _) | (with_reducible refine Kd.C_drew ?_)))
   (case side2 => exact HC0_1.out)
   rintro e w8 ⟨v255, rfl, ho0, hb⟩
   refine ⟨_, rfl, ?_⟩
   have n0_ := qm_ (ql_ ho0 (qz_ (by repeat (first | (with_reducible first | exact HB.out | apply qc_ | apply qx_ | apply qf_ | refine qg_ ?_ GE252.out | refine qg_ ?_ GE253.out | refine qg_ ?_ GE260.out) | exact HB.out))))
   have n1_ := qm_ (qs_ (g := gb252) (o := .cells #[.slice A0_0 l0_0.length c0_0, .slice A0_1 l0_1.length c0_1, .slice A0_2 l0_2.length c0_2] 30 (0, 0)) (by first | with_reducible exact BK252.out | with_reducible exact qu_ BK252.out _ | exact BK252.out | exact qw_ BK252.out _) hb)
   have n2_ := qm_ (qs_ (g := gb253) (o := .cells #[.slice none 0 0, .slice none 0 0, .slice none 0 0] 30 (0, 0)) (by first | with_reducible exact BK253.out | with_reducible exact qu_ BK253.out _ | exact BK253.out | exact qw_ BK253.out _) hb)
   have n3_ := qm_ (qs_ (g := gb260) (o := .cells #[.slice none 0 0, .slice none 0 0, .slice none 0 0] 30 (0, 0)) (by first | with_reducible exact BK260.out | with_reducible exact qu_ BK260.out _ | exact BK260.out | exact qw_ BK260.out _) hb)
   have n4_ := qm_ (qh_ (by repeat (first | (with_reducible first | exact HB.out | apply qc_ | apply qx_ | apply qf_ | refine qg_ ?_ GE252.out | refine qg_ ?_ GE253.out | refine qg_ ?_ GE260.out) | exact HB.out)) hb)
   clear BK252
   clear BK253
   clear BK260
   clear HB
   have HO256 := n0_
   have BK252 := n1_
   have BK253 := n2_
   have BK260 := n3_
   have HB := n4_
   clear n0_ n1_ n2_ n3_ n4_
   (try clear hb)
   (try clear hb2)
   (try clear hk)
   (try clear hi)
   (try clear ho0)
   refine hK.out _ _ ⟨(blk_cell BK252.out 0).trans rfl, (blk_cell BK252.out 1).trans rfl, (blk_cell BK252.out 2).trans rfl⟩ (fun hHeld => ?_)
   clear hK K
   refine norm_ (a' := ?_) ?_ ?_
   rotate_left
   ·show Act.put _ (some 8) _ = _
    simp only [Act.put, la_, lb_, lc_, i64_w, i32_w]
    rfl
   refine one_ (i := 5) (N := some 11) #[true, true, true, true, true, true, false, true, false] rfl rfl (one_of HT_.out (by kernel_rfl)) (by decide) (fun K hK => ?_)
   refine goes_ Try.func80 (by kernel_rfl) rfl #[.slice A0_2 l0_2.length c0_2] (by rfl) rfl rfl (by (try simp only [List.map_toArray, List.map_cons, List.map_nil]); first | done | rfl | (simp only [List.length_drop, List.length_take]; rfl)) ?_
   with_reducible refine (slices_Clone_int_int.calls _ _ l0_2 t257 _ ?side1 ?side2 A3.out).mono ?_
   (case side1 => repeat (first | exact (Kd.C_below HR0_2.out HB.out) | (with_reducible refine Kd.C_alloc ?_ _) | (with_reducible refine Kd.C_drewN ?_ _) | (with_reducible refine Kd.C_drew ?_)))
   (case side2 => exact HC0_2.out)
   rintro e w9 ⟨v258, rfl, ho0, hb⟩
   refine ⟨_, rfl, ?_⟩
   have n0_ := qm_ (qb_ (by (with_reducible repeat (first | apply qa_ | apply qn_ | apply qd_)); exact HO256.out) hb)
   have n1_ := qm_ (ql_ ho0 (qz_ (by repeat (first | (with_reducible first | exact HB.out | apply qc_ | apply qx_ | apply qf_ | refine qg_ ?_ GE252.out | refine qg_ ?_ GE253.out | refine qg_ ?_ GE260.out) | exact HB.out))))
   have n2_ := qm_ (qs_ (g := gb252) (o := .cells #[.slice A0_0 l0_0.length c0_0, .slice A0_1 l0_1.length c0_1, .slice A0_2 l0_2.length c0_2] 30 (0, 0)) (by first | with_reducible exact BK252.out | with_reducible exact qu_ BK252.out _ | exact BK252.out | exact qw_ BK252.out _) hb)
   have n3_ := qm_ (qs_ (g := gb253) (o := .cells #[.slice none 0 0, .slice none 0 0, .slice none 0 0] 30 (0, 0)) (by first | with_reducible exact BK253.out | with_reducible exact qu_ BK253.out _ | exact BK253.out | exact qw_ BK253.out _) hb)
   have n4_ := qm_ (qs_ (g := gb260) (o := .cells #[.slice none 0 0, .slice none 0 0, .slice none 0 0] 30 (0, 0)) (by first | with_reducible exact BK260.out | with_reducible exact qu_ BK260.out _ | exact BK260.out | exact qw_ BK260.out _) hb)
   have n5_ := qm_ (qh_ (by repeat (first | (with_reducible first | exact HB.out | apply qc_ | apply qx_ | apply qf_ | refine qg_ ?_ GE252.out | refine qg_ ?_ GE253.out | refine qg_ ?_ GE260.out) | exact HB.out)) hb)
   clear HO256
   clear BK252
   clear BK253
   clear BK260
   clear HB
   have HO256 := n0_
   have HO259 := n1_
   have BK252 := n2_
   have BK253 := n3_
   have BK260 := n4_
   have HB := n5_
   clear n0_ n1_ n2_ n3_ n4_ n5_
   (try clear hb)
   (try clear hb2)
   (try clear hk)
   (try clear hi)
   (try clear ho0)
   obtain ⟨Ao10, co10, eo10⟩ := Kd.R_slice HO259.out
   (first | subst eo10 | (injection eo10 with f1_ f2_ f3_; have f4_ := f1_.symm; have f5_ := f3_.symm; clear f1_ f2_ f3_; subst f4_; subst f5_))
   obtain ⟨Ao11, co11, eo11⟩ := Kd.R_slice HO256.out
   (first | subst eo11 | (injection eo11 with f1_ f2_ f3_; have f4_ := f1_.symm; have f5_ := f3_.symm; clear f1_ f2_ f3_; subst f4_; subst f5_))
   refine hK.out _ _ ⟨(blk_cell BK252.out 0).trans rfl, (blk_cell BK252.out 1).trans rfl, (blk_cell BK252.out 2).trans rfl⟩ (fun hHeld => ?_)
   clear hK K
   refine norm_ (a' := ?_) ?_ ?_
   rotate_left
   ·show Act.put _ (some 11) _ = _
    simp only [Act.put, la_, lb_, lc_, i64_w, i32_w]
    rfl
   refine pure_ (i := 6) (N := some 12) (v := ?_) (a' := ?_) #[true, true, true, true, true, true, true, true, false] rfl rfl (any_of HT_.out (by kernel_rfl)) (fun _ _ _ h => h) (Or.inl ⟨by rfl, ?_⟩) ?_ ?_
   rotate_left
   ·intro w'
    go_simp
    with_reducible rfl
   rotate_left
   ·simp only [Act.put, la_, lb_, lc_, i64_w, i32_w]
    rfl
   exact norm_ (by simp only [putAll, Act.put, la_, lb_, lc_]) (hCont (.slice Ao11 t254.length co11, .slice Ao10 t257.length co10, gb260) _ ⟨hHeld, (by (with_reducible repeat (first | apply qa_ | apply qn_ | apply qd_)); exact HO256.out), (by (with_reducible repeat (first | apply qa_ | apply qn_ | apply qd_)); exact HO259.out), (by first | with_reducible exact BK252.out | with_reducible exact qu_ BK252.out _ | exact BK252.out | exact qw_ BK252.out _), (by first | with_reducible exact BK253.out | with_reducible exact qu_ BK253.out _ | exact BK253.out | exact qw_ BK253.out _), (by first | with_reducible exact BK260.out | with_reducible exact qu_ BK260.out _ | exact BK260.out | exact qw_ BK260.out _), GW260.out, GE260.out, NB252_260.out, NB260_252.out, NB253_260.out, NB260_253.out, (by repeat (first | (with_reducible first | exact HB.out | apply qc_ | apply qx_ | apply qf_ | refine qg_ ?_ GE252.out | refine qg_ ?_ GE253.out | refine qg_ ?_ GE260.out) | exact HB.out))⟩)
 rintro ⟨v255, v258, gb260⟩ w12 ⟨hS_, h0_, h1_, h2_, h3_, h4_, h5_, h6_, h7_, h8_, h9_, h10_, h11_⟩
 have n0_ : Aside0 (Kd.R Kd.bool 4 w12 w.heap.size (fun _ => True) v255 t254) := ⟨h0_⟩
 have n1_ : Aside0 (Kd.R (Kd.int .i64) 3 w12 w.heap.size (fun _ => True) v258 t257) := ⟨h1_⟩
 have n2_ : Aside0 (w12.heap[gb252]? = some (.cells #[.slice A0_0 l0_0.length c0_0, .slice A0_1 l0_1.length c0_1, .slice A0_2 l0_2.length c0_2] 30 (0, 0))) := ⟨h2_⟩
 have n3_ : Aside0 (w12.heap[gb253]? = some (.cells #[.slice none 0 0, .slice none 0 0, .slice none 0 0] 30 (0, 0))) := ⟨h3_⟩
 have n4_ : Aside0 (w12.heap[gb260]? = some (.cells #[.slice none 0 0, .slice none 0 0, .slice none 0 0] 30 (0, 0))) := ⟨h4_⟩
 have n5_ : Aside0 (w.heap.size ≤ gb260) := ⟨h5_⟩
 have n6_ : Aside0 (w.heap.size ≤ gb260) := ⟨h6_⟩
 have n7_ : Aside0 (gb252 ≠ gb260) := ⟨h7_⟩
 have n8_ : Aside0 (gb260 ≠ gb252) := ⟨h8_⟩
 have n9_ : Aside0 (gb253 ≠ gb260) := ⟨h9_⟩
 have n10_ : Aside0 (gb260 ≠ gb253) := ⟨h10_⟩
 have n11_ : Aside0 (Below w.heap.size w w12) := ⟨h11_⟩
 clear BK252
 clear BK253
 clear HB
 clear h0_ h1_ h2_ h3_ h4_ h5_ h6_ h7_ h8_ h9_ h10_ h11_
 have HO256 := n0_
 have HO259 := n1_
 have BK252 := n2_
 have BK253 := n3_
 have BK260 := n4_
 have GW260 := n5_
 have GE260 := n6_
 have NB252_260 := n7_
 have NB260_252 := n8_
 have NB253_260 := n9_
 have NB260_253 := n10_
 have HB := n11_
 clear n0_ n1_ n2_ n3_ n4_ n5_ n6_ n7_ n8_ n9_ n10_ n11_
 have hHeld : w12.cell? ⟨gb252, 0, none⟩ = some (.slice A0_0 l0_0.length c0_0) ∧ w12.cell? ⟨gb252, 1, none⟩ = some (.slice A0_1 l0_1.length c0_1) ∧ w12.cell? ⟨gb252, 2, none⟩ = some (.slice A0_2 l0_2.length c0_2) := hS_
 obtain ⟨Ao13, co13, eo13⟩ := Kd.R_slice HO259.out
 (first | subst eo13 | (injection eo13 with f1_ f2_ f3_; have f4_ := f1_.symm; have f5_ := f3_.symm; clear f1_ f2_ f3_; subst f4_; subst f5_))
 obtain ⟨Ao14, co14, eo14⟩ := Kd.R_slice HO256.out
 (first | subst eo14 | (injection eo14 with f1_ f2_ f3_; have f4_ := f1_.symm; have f5_ := f3_.symm; clear f1_ f2_ f3_; subst f4_; subst f5_))
 refine norm_ (a' := ?_) ?_ ?_
 rotate_left
 ·simp only [putAll, Act.put, la_, lb_, lc_]
  rfl
 refine one_ (i := 8) (N := none) #[true, true, true, true, true, true, true, true, true] rfl rfl (one_of HT_.out (by kernel_rfl)) (by decide) (fun K hK => ?_)
 have hs15 : w12.cell? ⟨gb260, 0, none⟩ = some (.slice none 0 0) := (blk_cell BK260.out 0).trans rfl
 have hfs15 := blk_frozen BK260.out 0
 have hns15_0 := NB252_260.out
 have hns15_1 := NB253_260.out
 have hms15_0 := NB260_252.out
 have hms15_1 := NB260_253.out
 have hs16 : w12.cell? ⟨gb260, 1, none⟩ = some (.slice none 0 0) := (blk_cell BK260.out 1).trans rfl
 have hfs16 := blk_frozen BK260.out 1
 have hns16_0 := NB252_260.out
 have hns16_1 := NB253_260.out
 have hms16_0 := NB260_252.out
 have hms16_1 := NB260_253.out
 have hs17 : w12.cell? ⟨gb260, 2, none⟩ = some (.slice none 0 0) := (blk_cell BK260.out 2).trans rfl
 have hfs17 := blk_frozen BK260.out 2
 have hns17_0 := NB252_260.out
 have hns17_1 := NB253_260.out
 have hms17_0 := NB260_252.out
 have hms17_1 := NB260_253.out
 refine skip_ (w1 := ?_) (by rfl) rfl ?_ ?_
 rotate_left
 ·go_simp
  rfl
 refine hK.out _ _ ⟨((cell_far (p := ⟨gb260, _, none⟩) NB252_260.out _).trans (((cell_far (p := ⟨gb260, _, none⟩) NB252_260.out _).trans (((cell_far (p := ⟨gb260, _, none⟩) NB252_260.out _).trans (hHeld.1)))))), ((cell_far (p := ⟨gb260, _, none⟩) NB252_260.out _).trans (((cell_far (p := ⟨gb260, _, none⟩) NB252_260.out _).trans (((cell_far (p := ⟨gb260, _, none⟩) NB252_260.out _).trans (hHeld.2.1)))))), ((cell_far (p := ⟨gb260, _, none⟩) NB252_260.out _).trans (((cell_far (p := ⟨gb260, _, none⟩) NB252_260.out _).trans (((cell_far (p := ⟨gb260, _, none⟩) NB252_260.out _).trans (hHeld.2.2))))))⟩ (fun hHeld => ?_)
 clear hK K
 refine done_ (done_of HT_.out (by kernel_rfl)) ?_
 have hnb18 := NB252_253.out
 have hnc18 := NB253_252.out
 have hnb19 := NB252_260.out
 have hnc19 := NB260_252.out
 have hcz20_0 : w12.cell? ⟨gb252, 0, none⟩ = some (.slice A0_0 l0_0.length c0_0) := (blk_cell BK252.out 0).trans rfl
 have hcz20_1 : w12.cell? ⟨gb252, 1, none⟩ = some (.slice A0_1 l0_1.length c0_1) := (blk_cell BK252.out 1).trans rfl
 have hcz20_2 : w12.cell? ⟨gb252, 2, none⟩ = some (.slice A0_2 l0_2.length c0_2) := (blk_cell BK252.out 2).trans rfl
 have hfz20_0 := blk_frozen BK252.out 0
 have hfz20_1 := blk_frozen BK252.out 1
 have hfz20_2 := blk_frozen BK252.out 2
 try go_wp2
 go_loopg [16] k (fun kq v16 w' => ∃ (x16_1 : Int) (x261000_1 : List (List Int)) (u261000 : Value), v16 = .int .i64 x16_1 ∧ Aside0 (impl_cloneHeap.l0 kq l0_0 (l0_0.length : Int) x16_1 x261000_1 t254 t257 = some (r1, r2, r3)) ∧ Aside0 (kq ≤ k) ∧ Aside0 (Kd.S (Kd.slice 3 (Kd.int .i64)) 24 w' w.heap.size (fun k_ => some k_ ≠ ((.slice Ao13 t257.length co13) : Value).ownBlock) u261000 x261000_1) ∧ Aside0 (Kd.R Kd.bool 4 w' w.heap.size (fun _ => True) (.slice Ao14 t254.length co14) t254) ∧ Aside0 (Kd.R (Kd.int .i64) 3 w' w.heap.size (fun _ => True) (.slice Ao13 t257.length co13) t257) ∧ Aside0 (w'.heap[gb252]? = some (.cells #[(.slice A0_0 l0_0.length c0_0), (.slice A0_1 l0_1.length c0_1), (.slice A0_2 l0_2.length c0_2)] 30 (0, 0))) ∧ Aside0 (w'.heap[gb253]? = some (.cells #[(.slice none 0 0), (.slice none 0 0), (.slice none 0 0)] 30 (0, 0))) ∧ Aside0 (w'.heap[gb260]? = some (.cells #[u261000, (.slice Ao14 t254.length co14), (.slice Ao13 t257.length co13)] 30 (0, 0))) ∧ Aside0 (Below w.heap.size w w'))
 case atStart => exact ⟨(0), (([] : List (List Int))), (.slice none 0 0), (by first | rfl | (simp; done) | (simp [*]; done)), H', ⟨Nat.le_refl _⟩, ⟨by first | exact Kd.S_nil _ _ _ _ _ | exact Kd.N_nil _ _ _ _ _ | exact Kd.V_nil _ _ _ _ _ | exact Kd.Q_nil _ _ _ _ _ | exact Kd.R_nil _ _ _ _ _⟩, ⟨by (with_reducible repeat (first | apply qa_ | apply qn_ | apply qd_)); exact Kd.R_mono (Kd.R_far (p := ⟨gb260, 2, none⟩) (Kd.R_far (p := ⟨gb260, 1, none⟩) (Kd.R_far (p := ⟨gb260, 0, none⟩) (Kd.R_types HO256.out BK260.out (by decide)) (fun _ hk => hk.2) (.slice none 0 0)) (fun _ hk => hk.2) (.slice Ao14 t254.length co14)) (fun _ hk => hk.2) (.slice Ao13 t257.length co13)) (fun _ hk => trivial)⟩, ⟨by (with_reducible repeat (first | apply qa_ | apply qn_ | apply qd_)); exact Kd.R_mono (Kd.R_far (p := ⟨gb260, 2, none⟩) (Kd.R_far (p := ⟨gb260, 1, none⟩) (Kd.R_far (p := ⟨gb260, 0, none⟩) (Kd.R_types HO259.out BK260.out (by decide)) (fun _ hk => hk.2) (.slice none 0 0)) (fun _ hk => hk.2) (.slice Ao14 t254.length co14)) (fun _ hk => hk.2) (.slice Ao13 t257.length co13)) (fun _ hk => trivial)⟩, ⟨by (with_reducible repeat (first | refine qu_ ?_ _ | refine qv_ ?_ | refine qw_ ?_ _)); refine blk_far ?_ NB252_260.out _; (with_reducible repeat (first | refine qu_ ?_ _ | refine qv_ ?_ | refine qw_ ?_ _)); refine blk_far ?_ NB252_260.out _; (with_reducible repeat (first | refine qu_ ?_ _ | refine qv_ ?_ | refine qw_ ?_ _)); refine blk_far ?_ NB252_260.out _; (with_reducible repeat (first | refine qu_ ?_ _ | refine qv_ ?_ | refine qw_ ?_ _)); exact BK252.out⟩, ⟨by (with_reducible repeat (first | refine qu_ ?_ _ | refine qv_ ?_ | refine qw_ ?_ _)); refine blk_far ?_ NB253_260.out _; (with_reducible repeat (first | refine qu_ ?_ _ | refine qv_ ?_ | refine qw_ ?_ _)); refine blk_far ?_ NB253_260.out _; (with_reducible repeat (first | refine qu_ ?_ _ | refine qv_ ?_ | refine qw_ ?_ _)); refine blk_far ?_ NB253_260.out _; (with_reducible repeat (first | refine qu_ ?_ _ | refine qv_ ?_ | refine qw_ ?_ _)); exact BK253.out⟩, ⟨by (with_reducible repeat (first | refine qu_ ?_ _ | refine qv_ ?_ | refine qw_ ?_ _)); refine blk_put (cs := #[.slice none 0 0, .slice Ao14 t254.length co14, .slice none 0 0]) ?_ 2 _ rfl; (with_reducible repeat (first | refine qu_ ?_ _ | refine qv_ ?_ | refine qw_ ?_ _)); refine blk_put (cs := #[.slice none 0 0, .slice none 0 0, .slice none 0 0]) ?_ 1 _ rfl; (with_reducible repeat (first | refine qu_ ?_ _ | refine qv_ ?_ | refine qw_ ?_ _)); refine blk_put (cs := #[.slice none 0 0, .slice none 0 0, .slice none 0 0]) ?_ 0 _ rfl; (with_reducible repeat (first | refine qu_ ?_ _ | refine qv_ ?_ | refine qw_ ?_ _)); exact BK260.out⟩, ⟨by repeat (first | (with_reducible first | exact HB.out | apply qc_ | apply qx_ | apply qf_ | refine qg_ ?_ GE252.out | refine qg_ ?_ GE253.out | refine qg_ ?_ GE260.out) | exact HB.out)⟩⟩
 case round =>
  clear H'
  try clear c1
  try clear p2
  try clear c7
  try clear c8
  try clear c10
  try clear c18
  try clear c19
  try clear hcz20_0
  try clear hcz20_1
  try clear hcz20_2
  try clear hfz20_0
  try clear hfz20_1
  try clear hfz20_2
  obtain ⟨x16_1, x261000_1, u261000, rfl, HA, HK1, HO_261000, HO_261001, HO_261002, BK252, BK253, BK260, HB⟩ := hrel
  cases gk with
  | zero => exact absurd HA.out (by simp [impl_cloneHeap.l0])
  | succ k1 =>
   have H := HA.out
   clear HA
   simp only [impl_cloneHeap.l0] at H
   by_cases c21 : x16_1 < (l0_0.length : Int)
   ·rw [if_pos c21] at H
    have c21b0 : decide (x16_1 < (l0_0.length : Int)) = true := decide_eq_true c21
    clear c21
    by_cases c22 : 0 ≤ x16_1
    ·rw [if_pos c22] at H
     have c22b0 : decide (0 ≤ x16_1) = true := decide_eq_true c22
     clear c22
     by_cases c23 : x16_1 < (l0_0.length : Int)
     ·rw [if_pos c23] at H
      have c23b0 : decide (x16_1 < (l0_0.length : Int)) = true := decide_eq_true c23
      clear c23
      replace H := Option.bind_eq_some_iff.mp H
      obtain ⟨t262, A240, H⟩ := H
      replace H : (if x261000_1.length < 5864062014805 then (impl_cloneHeap.l0 k1 l0_0 (l0_0.length : Int) (wrap64 (x16_1 + 1)) (x261000_1 ++ [t262]) t254 t257) else (none)) = some (r1, r2, r3) := H
      have A24 := qm_ A240
      clear A240
      by_cases c25 : x261000_1.length < 5864062014805
      ·rw [if_pos c25] at H
       have LMc25 := qm_ c25
       clear c25
       obtain ⟨y265, hy265⟩ : ∃ y_ : List (List Int), y_ = (x261000_1 ++ [t262]) := ⟨_, rfl⟩
       replace H : (impl_cloneHeap.l0 k1 l0_0 (l0_0.length : Int) (wrap64 (x16_1 + 1)) y265 t254 t257) = some (r1, r2, r3) := by first | (rw [hy265]; with_reducible exact H) | (have H2_ := (Option.bind_some _ _).symm.trans H; rw [hy265]; with_reducible exact H2_) | (have H2_ := (Option.bind_some _ _).symm.trans H; with_reducible exact H2_) | with_reducible exact H | (rw [hy265]; exact H) | exact H
       have Ny265 := qm_ hy265
       clear hy265
       have H' := qm_ H
       clear H
       have p261 : 0 ≤ (x16_1 : Int) := of_decide_eq_true (by first | (with_reducible assumption) | assumption)
       have q261 : x16_1 < (l0_0.length : Int) := of_decide_eq_true (by first | (with_reducible assumption) | assumption)
       obtain ⟨ad261, A261_0, c261_0, e261, hx261_0, hl261_0, hi261_0⟩ := at_L1 HR0_0.out x16_1 p261 q261
       cases e261
       replace hx261_0 := (HB.out.cell (World.block_lt_of_cell? w _ hx261_0)).trans hx261_0
       have HR261_0 := qm_ hi261_0
       have HC261_0 := qm_ hl261_0
       clear hi261_0 hl261_0
       replace p261 := eq_true p261
       replace q261 := eq_true q261
       try go_wp2
       have n0_ := qm_ (Kd.S_drew HO_261000.out)
       have n1_ := qm_ (qd_ HO_261001.out)
       have n2_ := qm_ (qd_ HO_261002.out)
       have n3_ := qm_ (qv_ BK252.out)
       have n4_ := qm_ (qv_ BK253.out)
       have n5_ := qm_ (qv_ BK260.out)
       have n6_ := qm_ (qf_ HB.out)
       clear HO_261000
       clear HO_261001
       clear HO_261002
       clear BK252
       clear BK253
       clear BK260
       clear HB
       have HO_261000 := n0_
       have HO_261001 := n1_
       have HO_261002 := n2_
       have BK252 := n3_
       have BK253 := n4_
       have BK260 := n5_
       have HB := n6_
       clear n0_ n1_ n2_ n3_ n4_ n5_ n6_
       refine start_ (n := 8) (S := fun w' => w'.cell? ⟨gb260, 0, none⟩ = some (u261000) ∧ w'.cell? ⟨gb260, 1, none⟩ = some (.slice Ao14 t254.length co14) ∧ w'.cell? ⟨gb260, 2, none⟩ = some (.slice Ao13 t257.length co13)) (ds := [7]) #[false, false, false, false, false, false, false, false] (by kernel_rfl) rfl rfl ⟨(blk_cell BK260.out 0).trans rfl, (blk_cell BK260.out 1).trans rfl, (blk_cell BK260.out 2).trans rfl⟩ (fun hHeld => ?_); refine with_tabW impl_cloneHeap.tab5 impl_cloneHeap.bits5 (fun HT_ HW_ => ?_)
       generalize wr.drew = w26 at HO_261000 HO_261001 HO_261002 BK252 BK253 BK260 HB hHeld ⊢
       refine pure_ (i := 0) (N := some 20) (v := ?_) (a' := ?_) #[true, false, false, false, false, false, false, false] rfl rfl (any_of HT_.out (by kernel_rfl)) (fun _ _ _ h => h) (Or.inl ⟨by rfl, ?_⟩) ?_ ?_
       rotate_left
       ·intro w'
        go_simp
        with_reducible rfl
       rotate_left
       ·simp only [Act.put, la_, lb_, lc_, i64_w, i32_w]
        rfl
       refine pure_ (i := 2) (N := some 22) (v := ?_) (a' := ?_) #[true, false, true, false, false, false, false, false] rfl rfl (any_of HT_.out (by kernel_rfl)) (fun _ _ _ h => h) (Or.inl ⟨by rfl, ?_⟩) ?_ ?_
       rotate_left
       ·intro w'
        go_simp
        with_reducible rfl
       rotate_left
       ·simp only [Act.put, la_, lb_, lc_, i64_w, i32_w]
        rfl
       refine take_ (i := 1) (N := some 21) (v := ?_) (a' := ?_) #[true, true, true, false, false, false, false, false] rfl rfl (take_ofW HT_.out HW_.out (by kernel_rfl)) (fun _ _ _ h => h) (Or.inl ⟨by rfl, ?_⟩) hHeld ?_ ?_
       rotate_left
       ·rintro w' ⟨s0, s1, s2⟩
        go_simp
        with_reducible rfl
       rotate_left
       ·simp only [Act.put, la_, lb_, lc_, i64_w, i32_w]
        rfl
       refine one_ (i := 3) (N := some 23) #[true, true, true, true, false, false, false, false] rfl rfl (one_of HT_.out (by kernel_rfl)) (by decide) (fun K hK => ?_)
       refine goes_ Try.func80 (by kernel_rfl) rfl #[.slice A261_0 (rd_L1 l0_0 x16_1).length c261_0] (by rfl) rfl rfl (by (try simp only [List.map_toArray, List.map_cons, List.map_nil]); first | done | rfl | (simp only [List.length_drop, List.length_take]; rfl)) ?_
       with_reducible refine (slices_Clone_int_int.calls _ _ (rd_L1 l0_0 x16_1) t262 _ ?side1 ?side2 A24.out).mono ?_
       (case side1 => repeat (first | exact (Kd.C_below HR261_0.out HB.out) | (with_reducible refine Kd.C_alloc ?_ _) | (with_reducible refine Kd.C_drewN ?_ _) | (with_reducible refine Kd.C_drew ?_)))
       (case side2 => exact HC261_0.out)
       rintro e w27 ⟨v263, rfl, ho0, hb⟩
       refine ⟨_, rfl, ?_⟩
       have n0_ := qm_ (Kd.S_elder' (by (with_reducible repeat (first | apply Kd.S_alloc | apply Kd.S_drewN | apply Kd.S_drew)); exact HO_261000.out) (Kd.R_base ho0) hb)
       have n1_ := qm_ (qb_ (by (with_reducible repeat (first | apply qa_ | apply qn_ | apply qd_)); exact HO_261001.out) hb)
       have n2_ := qm_ (Kd.R_elder' (by (with_reducible repeat (first | apply qa_ | apply qn_ | apply qd_)); exact HO_261002.out) (Kd.R_base ho0) hb)
       have n3_ := qm_ (ql_ (qe_ ho0 (qt_ (by (with_reducible repeat (first | apply qa_ | apply qn_ | apply qd_)); exact HO_261002.out))) (qz_ (by repeat (first | (with_reducible first | exact HB.out | apply qc_ | apply qx_ | apply qf_ | refine qg_ ?_ GE252.out | refine qg_ ?_ GE253.out | refine qg_ ?_ GE260.out) | exact HB.out))))
       have n4_ := qm_ (qs_ (g := gb252) (o := .cells #[.slice (some ad261) l0_0.length c0_0, .slice A0_1 l0_1.length c0_1, .slice A0_2 l0_2.length c0_2] 30 (0, 0)) (by first | with_reducible exact BK252.out | with_reducible exact qu_ BK252.out _ | exact BK252.out | exact qw_ BK252.out _) hb)
       have n5_ := qm_ (qs_ (g := gb253) (o := .cells #[.slice none 0 0, .slice none 0 0, .slice none 0 0] 30 (0, 0)) (by first | with_reducible exact BK253.out | with_reducible exact qu_ BK253.out _ | exact BK253.out | exact qw_ BK253.out _) hb)
       have n6_ := qm_ (qs_ (g := gb260) (o := .cells #[u261000, .slice Ao14 t254.length co14, .slice Ao13 t257.length co13] 30 (0, 0)) (by first | with_reducible exact BK260.out | with_reducible exact qu_ BK260.out _ | exact BK260.out | exact qw_ BK260.out _) hb)
       have n7_ := qm_ (qh_ (by repeat (first | (with_reducible first | exact HB.out | apply qc_ | apply qx_ | apply qf_ | refine qg_ ?_ GE252.out | refine qg_ ?_ GE253.out | refine qg_ ?_ GE260.out) | exact HB.out)) hb)
       clear HO_261000
       clear HO_261001
       clear HO_261002
       clear BK252
       clear BK253
       clear BK260
       clear HB
       have HO_261000 := n0_
       have HO_261001 := n1_
       have HO_261002 := n2_
       have HO264 := n3_
       have BK252 := n4_
       have BK253 := n5_
       have BK260 := n6_
       have HB := n7_
       clear n0_ n1_ n2_ n3_ n4_ n5_ n6_ n7_
       (try clear hb)
       (try clear hb2)
       (try clear hk)
       (try clear hi)
       (try clear ho0)
       obtain ⟨Ao29, co29, eo29⟩ := Kd.R_slice HO264.out
       (first | subst eo29 | (injection eo29 with f1_ f2_ f3_; have f4_ := f1_.symm; have f5_ := f3_.symm; clear f1_ f2_ f3_; subst f4_; subst f5_))
       refine hK.out _ _ ⟨(blk_cell BK260.out 0).trans rfl, (blk_cell BK260.out 1).trans rfl, (blk_cell BK260.out 2).trans rfl⟩ (fun hHeld => ?_)
       clear hK K
       refine norm_ (a' := ?_) ?_ ?_
       rotate_left
       ·show Act.put _ (some 23) _ = _
        simp only [Act.put, la_, lb_, lc_, i64_w, i32_w]
        rfl
       refine one_ (i := 4) (N := some 24) #[true, true, true, true, true, false, false, false] rfl rfl (one_of HT_.out (by kernel_rfl)) (by decide) (fun K hK => ?_)
       refine value_ (w1 := ?_) (v := ?_) (by rfl) rfl ?_ ?_
       rotate_left 2
       ·go_simp
        constructor
        ·rfl
        ·rfl
       refine hK.out _ _ ⟨(blk_cell (qw_ BK260.out _) 0).trans rfl, (blk_cell (qw_ BK260.out _) 1).trans rfl, (blk_cell (qw_ BK260.out _) 2).trans rfl⟩ (fun hHeld => ?_)
       clear hK K
       refine norm_ (a' := ?_) ?_ ?_
       rotate_left
       ·show Act.put _ (some 24) _ = _
        simp only [Act.put, la_, lb_, lc_, i64_w, i32_w]
        rfl
       refine one_ (i := 5) (N := some 25) #[true, true, true, true, true, true, false, false] rfl rfl (one_of HT_.out (by kernel_rfl)) (by decide) (fun K hK => ?_)
       refine Kd.S_append_step (Kd.slice 3 (Kd.int .i64)) (w0 := w) w.heap.size (by rfl) (.tmp 21) (.tmp 24) 22 24 (.slice none 0 0) 24 rfl Try.underlying22 info24 rfl (by decide) (by omega) u261000 x261000_1 t262 [.slice Ao29 t262.length co29] (fun k_ => some k_ ≠ (.slice Ao13 t257.length co13 : Value).ownBlock) (fun k_ => some k_ = (.slice Ao29 t262.length co29 : Value).ownBlock) rfl rfl ?aP (fun k_ hk_ => ((Kd.R_mono (ok' := fun k_ => ((fun k_ => some k_ ≠ (.slice Ao13 t257.length co13 : Value).ownBlock)) k_ ∧ some k_ ≠ (u261000 : Value).ownBlock) (Kd.R_apart' (HO264.out) (Kd.S_typed HO_261000.out) (by decide)) (fun k_ hk => ⟨hk.1.2, hk.2⟩))).1 k_ hk_.symm) ?aF ?aO ?aB ?aS ?aL ?_
       (case aP => exact Kd.M_row (Kd.R_mono (Kd.R_tight rfl (Kd.R_mono (ok' := fun k_ => ((fun k_ => some k_ ≠ (.slice Ao13 t257.length co13 : Value).ownBlock)) k_ ∧ some k_ ≠ (u261000 : Value).ownBlock) (Kd.R_apart' (HO264.out) (Kd.S_typed HO_261000.out) (by decide)) (fun k_ hk => ⟨hk.1.2, hk.2⟩))) (fun _ h_ => h_)))
       (case aB => exact (by repeat (first | (with_reducible first | exact HB.out | apply qc_ | apply qx_ | apply qf_ | refine qg_ ?_ GE252.out | refine qg_ ?_ GE253.out | refine qg_ ?_ GE260.out) | exact HB.out)))
       (case aF => exact (fun k_ hk => Kd.fresh' (qt_ (by (with_reducible repeat (first | apply qa_ | apply qn_ | apply qd_)); exact HO_261002.out)) k_ hk))
       (case aO => exact (by (with_reducible repeat (first | apply Kd.S_alloc | apply Kd.S_drewN | apply Kd.S_drew)); exact Kd.S_mono HO_261000.out (fun k_ hk => ⟨hk.1, fun e_ => hk.2 e_⟩)))
       (case aS => exact (qz_ (by repeat (first | (with_reducible first | exact HB.out | apply qc_ | apply qx_ | apply qf_ | refine qg_ ?_ GE252.out | refine qg_ ?_ GE253.out | refine qg_ ?_ GE260.out) | exact HB.out))))
       (case aL => have := LMc25.out; omega)
       intro v266 w28 ho hb hg hat
       rw [← Ny265.out] at ho
       have n0_ := qm_ (Kd.R_over' (by (with_reducible repeat (first | apply qa_ | apply qn_ | apply qd_)); exact HO_261001.out) (Kd.S_typed (by (with_reducible repeat (first | apply Kd.S_alloc | apply Kd.S_drewN | apply Kd.S_drew)); exact HO_261000.out)) (by decide) hg)
       have n1_ := qm_ (Kd.R_over' (by (with_reducible repeat (first | apply qa_ | apply qn_ | apply qd_)); exact HO_261002.out) (Kd.S_typed (by (with_reducible repeat (first | apply Kd.S_alloc | apply Kd.S_drewN | apply Kd.S_drew)); exact HO_261000.out)) (by decide) hg)
       have n2_ := qm_ (blk_grown (g := gb252) (o := .cells #[.slice (some ad261) l0_0.length c0_0, .slice A0_1 l0_1.length c0_1, .slice A0_2 l0_2.length c0_2] 30 (0, 0)) (by first | with_reducible exact BK252.out | with_reducible exact qu_ BK252.out _ | exact BK252.out | exact qw_ BK252.out _) hg (Kd.S_ne HO_261000.out BK252.out (by decide)))
       have n3_ := qm_ (blk_grown (g := gb253) (o := .cells #[.slice none 0 0, .slice none 0 0, .slice none 0 0] 30 (0, 0)) (by first | with_reducible exact BK253.out | with_reducible exact qu_ BK253.out _ | exact BK253.out | exact qw_ BK253.out _) hg (Kd.S_ne HO_261000.out BK253.out (by decide)))
       have n4_ := qm_ (blk_grown (g := gb260) (o := .cells #[u261000, .slice Ao14 t254.length co14, .slice Ao13 t257.length co13] 30 (0, 0)) (by first | with_reducible exact BK260.out | with_reducible exact qu_ BK260.out _ | exact BK260.out | exact qw_ BK260.out _) hg (Kd.S_ne HO_261000.out BK260.out (by decide)))
       have n5_ := qm_ (hb)
       have n6_ := qm_ (ho)
       clear HO_261001
       clear HO_261002
       clear BK252
       clear BK253
       clear BK260
       clear HB
       clear HO_261000
       clear HO264
       have HO_261001 := n0_
       have HO_261002 := n1_
       have BK252 := n2_
       have BK253 := n3_
       have BK260 := n4_
       have HB := n5_
       have HO267 := n6_
       clear n0_ n1_ n2_ n3_ n4_ n5_ n6_
       clear ho hb hg hat
       obtain ⟨Ao30, co30, eo30⟩ := Kd.S_slice HO267.out
       (first | subst eo30 | (injection eo30 with f1_ f2_ f3_; have f4_ := f1_.symm; have f5_ := f3_.symm; clear f1_ f2_ f3_; subst f4_; subst f5_))
       refine hK.out _ _ ⟨(blk_cell BK260.out 0).trans rfl, (blk_cell BK260.out 1).trans rfl, (blk_cell BK260.out 2).trans rfl⟩ (fun hHeld => ?_)
       clear hK K
       refine norm_ (a' := ?_) ?_ ?_
       rotate_left
       ·show Act.put _ (some 25) _ = _
        simp only [Act.put, la_, lb_, lc_, i64_w, i32_w]
        rfl
       refine pure_ (i := 6) (N := some 26) (v := ?_) (a' := ?_) #[true, true, true, true, true, true, true, false] rfl rfl (any_of HT_.out (by kernel_rfl)) (fun _ _ _ h => h) (Or.inl ⟨by rfl, ?_⟩) ?_ ?_
       rotate_left
       ·intro w'
        go_simp
        with_reducible rfl
       rotate_left
       ·simp only [Act.put, la_, lb_, lc_, i64_w, i32_w]
        rfl
       refine last_ (i := 7) (N := none) #[true, true, true, true, true, true, true, true] rfl rfl (one_of HT_.out (by kernel_rfl)) (by decide) (fun K hK => ?_)
       have hs31 : w28.cell? ⟨gb260, 0, none⟩ = some (u261000) := (blk_cell BK260.out 0).trans rfl
       have hfs31 := blk_frozen BK260.out 0
       have hns31_0 := NB252_260.out
       have hns31_1 := NB253_260.out
       have hms31_0 := NB260_252.out
       have hms31_1 := NB260_253.out
       refine skip_ (w1 := ?_) (by rfl) rfl ?_ ?_
       rotate_left
       ·go_simp
        rfl
       refine hK.out _ _ ?_
       clear hK K
       refine done_ (done_of HT_.out (by kernel_rfl)) ?_
       try go_wp2
       go_roundg k1
       case measure => have := HK1.out; omega
       case rel => exact ⟨(wrap64 (x16_1 + 1)), (y265), (.slice Ao30 y265.length co30), (by first | rfl | (simp; done) | (simp [*]; done)), H', ⟨by have := HK1.out; omega⟩, ⟨by (with_reducible repeat (first | apply Kd.S_alloc | apply Kd.S_drewN | apply Kd.S_drew)); exact Kd.S_mono (Kd.S_far (p := ⟨gb260, 0, none⟩) (Kd.S_types HO267.out BK260.out (by decide)) (fun _ hk => hk.2) (.slice Ao30 y265.length co30)) (fun _ hk => hk.1)⟩, ⟨by (with_reducible repeat (first | apply qa_ | apply qn_ | apply qd_)); exact Kd.R_mono (Kd.R_far (p := ⟨gb260, 0, none⟩) (Kd.R_types HO_261001.out BK260.out (by decide)) (fun _ hk => hk.2) (.slice Ao30 y265.length co30)) (fun _ hk => trivial)⟩, ⟨by (with_reducible repeat (first | apply qa_ | apply qn_ | apply qd_)); exact Kd.R_mono (Kd.R_far (p := ⟨gb260, 0, none⟩) (Kd.R_types HO_261002.out BK260.out (by decide)) (fun _ hk => hk.2) (.slice Ao30 y265.length co30)) (fun _ hk => trivial)⟩, ⟨by (with_reducible repeat (first | refine qu_ ?_ _ | refine qv_ ?_ | refine qw_ ?_ _)); refine blk_far ?_ NB252_260.out _; (with_reducible repeat (first | refine qu_ ?_ _ | refine qv_ ?_ | refine qw_ ?_ _)); exact BK252.out⟩, ⟨by (with_reducible repeat (first | refine qu_ ?_ _ | refine qv_ ?_ | refine qw_ ?_ _)); refine blk_far ?_ NB253_260.out _; (with_reducible repeat (first | refine qu_ ?_ _ | refine qv_ ?_ | refine qw_ ?_ _)); exact BK253.out⟩, ⟨by (with_reducible repeat (first | refine qu_ ?_ _ | refine qv_ ?_ | refine qw_ ?_ _)); refine blk_put (cs := #[u261000, .slice Ao14 t254.length co14, .slice Ao13 t257.length co13]) ?_ 0 _ rfl; (with_reducible repeat (first | refine qu_ ?_ _ | refine qv_ ?_ | refine qw_ ?_ _)); exact BK260.out⟩, ⟨by repeat (first | (with_reducible first | exact HB.out | apply qc_ | apply qx_ | apply qf_ | refine qg_ ?_ GE252.out | refine qg_ ?_ GE253.out | refine qg_ ?_ GE260.out) | exact HB.out)⟩⟩
      ·rw [if_neg c25] at H
       exact absurd H (by simp)
     ·rw [if_neg c23] at H
      exact absurd H (by simp)
    ·rw [if_neg c22] at H
     exact absurd H (by simp)
   ·rw [if_neg c21] at H
    have c21b0 : decide (x16_1 < (l0_0.length : Int)) = false := decide_eq_false c21
    clear c21
    simp only [Option.some.injEq, Prod.mk.injEq] at H
    obtain ⟨rfl, rfl, rfl⟩ := H
    have hnb32 := NB260_252.out
    have hnc32 := NB252_260.out
    have hnb33 := NB260_253.out
    have hnc33 := NB253_260.out
    have hcz34_0 : wr.cell? ⟨gb260, 0, none⟩ = some (u261000) := (blk_cell BK260.out 0).trans rfl
    have hcz34_1 : wr.cell? ⟨gb260, 1, none⟩ = some (.slice Ao14 t254.length co14) := (blk_cell BK260.out 1).trans rfl
    have hcz34_2 : wr.cell? ⟨gb260, 2, none⟩ = some (.slice Ao13 t257.length co13) := (blk_cell BK260.out 2).trans rfl
    have hfz34_0 := blk_frozen BK260.out 0
    have hfz34_1 := blk_frozen BK260.out 1
    have hfz34_2 := blk_frozen BK260.out 2
    obtain ⟨Ao35, co35, eo35⟩ := Kd.S_slice HO_261000.out
    subst eo35
    have hnb36 := NB253_252.out
    have hnc36 := NB252_253.out
    have hcz37_0 : wr.cell? ⟨gb253, 0, none⟩ = some (.slice none 0 0) := (blk_cell BK253.out 0).trans rfl
    have hcz37_1 : wr.cell? ⟨gb253, 1, none⟩ = some (.slice none 0 0) := (blk_cell BK253.out 1).trans rfl
    have hcz37_2 : wr.cell? ⟨gb253, 2, none⟩ = some (.slice none 0 0) := (blk_cell BK253.out 2).trans rfl
    have hfz37_0 := blk_frozen BK253.out 0
    have hfz37_1 := blk_frozen BK253.out 1
    have hfz37_2 := blk_frozen BK253.out 2
    go_wp2
    refine bodyPost_ret (results_cell_row rfl _ _ gb253 30 #[.slice Ao35 x261000_1.length co35, .slice Ao14 t254.length co14, .slice Ao13 t257.length co13] (0, 0) _ rfl (by (with_reducible repeat (first | refine qu_ ?_ _ | refine qv_ ?_ | refine qw_ ?_ _)); refine blk_put (cs := #[.slice Ao35 x261000_1.length co35, .slice Ao14 t254.length co14, .slice none 0 0]) ?_ 2 _ rfl; (with_reducible repeat (first | refine qu_ ?_ _ | refine qv_ ?_ | refine qw_ ?_ _)); refine blk_put (cs := #[.slice Ao35 x261000_1.length co35, .slice none 0 0, .slice none 0 0]) ?_ 1 _ rfl; (with_reducible repeat (first | refine qu_ ?_ _ | refine qv_ ?_ | refine qw_ ?_ _)); refine blk_put (cs := #[.slice none 0 0, .slice none 0 0, .slice none 0 0]) ?_ 0 _ rfl; (with_reducible repeat (first | refine qu_ ?_ _ | refine qv_ ?_ | refine qw_ ?_ _)); exact BK253.out) Try.underlying30 rfl (by kernel_rfl)) rfl ?_
    exact ⟨_, _, _, by first | rfl | (simp [errW_none, errW_some] <;> rfl) | (simp [*, errW_none, errW_some] <;> rfl), by (with_reducible repeat (first | apply Kd.S_alloc | apply Kd.S_drewN | apply Kd.S_drew)); exact Kd.S_mono (Kd.S_far (p := ⟨gb253, 2, none⟩) (Kd.S_far (p := ⟨gb253, 1, none⟩) (Kd.S_far (p := ⟨gb253, 0, none⟩) (Kd.S_types HO_261000.out BK253.out (by decide)) (fun _ hk => hk.2) (.slice Ao35 x261000_1.length co35)) (fun _ hk => hk.2) (.slice Ao14 t254.length co14)) (fun _ hk => hk.2) (.slice Ao13 t257.length co13)) (fun _ hk => hk.1), by (with_reducible repeat (first | apply qa_ | apply qn_ | apply qd_)); exact Kd.R_mono (Kd.R_far (p := ⟨gb253, 2, none⟩) (Kd.R_far (p := ⟨gb253, 1, none⟩) (Kd.R_far (p := ⟨gb253, 0, none⟩) (Kd.R_types HO_261001.out BK253.out (by decide)) (fun _ hk => hk.2) (.slice Ao35 x261000_1.length co35)) (fun _ hk => hk.2) (.slice Ao14 t254.length co14)) (fun _ hk => hk.2) (.slice Ao13 t257.length co13)) (fun _ hk => trivial), by (with_reducible repeat (first | apply qa_ | apply qn_ | apply qd_)); exact Kd.R_mono (Kd.R_far (p := ⟨gb253, 2, none⟩) (Kd.R_far (p := ⟨gb253, 1, none⟩) (Kd.R_far (p := ⟨gb253, 0, none⟩) (Kd.R_types HO_261002.out BK253.out (by decide)) (fun _ hk => hk.2) (.slice Ao35 x261000_1.length co35)) (fun _ hk => hk.2) (.slice Ao14 t254.length co14)) (fun _ hk => hk.2) (.slice Ao13 t257.length co13)) (fun _ hk => trivial), by repeat (first | (with_reducible first | exact HB.out | apply qc_ | apply qx_ | apply qf_ | refine qg_ ?_ GE252.out | refine qg_ ?_ GE253.out | refine qg_ ?_ GE260.out) | exact HB.out)⟩

end Go.Proofs.Ytkfldlniknifpaa.QFnExactSetField
