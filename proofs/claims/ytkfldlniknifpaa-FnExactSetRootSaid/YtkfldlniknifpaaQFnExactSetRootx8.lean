-- Written by a program of the session, a changed copy of the kit's print: not the kit's own print; Lean checks it.
import Derived.Test.YtkfldlniknifpaaQFnExactSetRootx0
import Derived.Test.YtkfldlniknifpaaQFnExactSetRootx6
import Derived.Test.YtkfldlniknifpaaQFnExactSetRootx7
namespace Go.Proofs.Ytkfldlniknifpaa.QFnExactSetRoot
open Go.RowKit Go.Proofs.YtkfldlniknifpaaW.PrintWords Go.Proofs.YtkfldlniknifpaaW.PrintLast Go.Proofs.YtkfldlniknifpaaW.PrintMore
attribute [local go_sem] max2_int min2_int max_two min_two max_three min_three max_four min_four   -- for this text's walks alone
set_option linter.unusedVariables false
set_option linter.unusedSimpArgs false

open List renaming setIfInBounds_toArray → la_, set_cons_zero → lb_, set_cons_succ → lc_
open Go.Proofs.YtkfldlniknifpaaW.PrintWords.Kd renaming R_alloc → qa_, R_drewN → qn_, R_drew → qd_, R_lower → ql_, R_lt → qt_, R_new' → qe_, R_below → qb_
open Go.Proofs.YtkfldlniknifpaaW.PrintWords renaming blk_drewN → qu_, blk_drew → qv_, blk_alloc → qw_, blk_below → qs_, below_size → qz_, below_alloc → qc_, pw_below_drewN → qx_, below_drew1 → qf_, below_set → qg_, below_step → qh_
open Go.Proofs.YtkfldlniknifpaaW.PrintWords.Aside0 renaming mk → qm_
/-! ### impl_cloneHeap: function 74 -/
def impl_cloneHeap.l0 : Nat → List (List Int) → Int → Int → List (List Int) → List Bool → List Int → Option ((List (List Int)) × List Bool × List Int)
 | 0, _, _, _, _, _, _ => none
 | k + 1, x14, x15, x16, x264000, x264001, x264002 => if x16 < x15 then (if 0 ≤ x16 then (if x16 < (x14.length : Int) then ((slices_Clone_int_int.f (rd_L1 x14 x16)).bind fun t265 => (if x264000.length < 5864062014805 then (impl_cloneHeap.l0 k x14 x15 (wrap64 (x16 + 1)) (x264000 ++ [t265]) x264001 x264002) else (none))) else (none)) else (none)) else (some (x264000, x264001, x264002))
def impl_cloneHeap.f (k : Nat) (l0_0 : List (List Int)) (l0_1 : List Bool) (l0_2 : List Int) : Option ((List (List Int)) × List Bool × List Int) := (slices_Clone_bool_bool.f l0_1).bind fun t257 => ((slices_Clone_int_int.f l0_2).bind fun t260 => (impl_cloneHeap.l0 k l0_0 (l0_0.length : Int) 0 ([] : List (List Int)) t257 t260))
theorem impl_cloneHeap.mono_l : ∀ k, (∀ y0 y1 y2 y3 y4 y5, LeO (impl_cloneHeap.l0 k y0 y1 y2 y3 y4 y5) (impl_cloneHeap.l0 (k + 1) y0 y1 y2 y3 y4 y5))
 | 0 => fun _ _ _ _ _ _ r h => by simp [impl_cloneHeap.l0] at h
 | k + 1 => by
  have ih0 := impl_cloneHeap.mono_l k
  ·intro y0 y1 y2 y3 y4 y5
   unfold impl_cloneHeap.l0
   repeat' first
   | (with_reducible exact ih0 _ _ _ _ _ _)
   | (with_reducible exact LeO.refl _)
   | (with_reducible exact LeO.none _)
   | (with_reducible refine LeO.ite ?_ ?_)
   | (with_reducible refine LeO.bind ?_ (fun _ => ?_))
   | exact ih0 _ _ _ _ _ _
   | exact LeO.none _
   | refine LeO.ite ?_ ?_
   | refine LeO.bind ?_ (fun _ => ?_)
theorem impl_cloneHeap.mono : ∀ a0 a1 a2 k, LeO (impl_cloneHeap.f k a0 a1 a2) (impl_cloneHeap.f (k + 1) a0 a1 a2) := by
 intro a0 a1 a2 k
 have ih0 := impl_cloneHeap.mono_l k
 unfold impl_cloneHeap.f
 repeat' first
   | (with_reducible exact ih0 _ _ _ _ _ _)
   | (with_reducible exact LeO.refl _)
   | (with_reducible exact LeO.none _)
   | (with_reducible refine LeO.ite ?_ ?_)
   | (with_reducible refine LeO.bind ?_ (fun _ => ?_))
   | exact ih0 _ _ _ _ _ _
   | exact LeO.none _
   | refine LeO.ite ?_ ?_
   | refine LeO.bind ?_ (fun _ => ?_)
def impl_cloneHeap.T1 : Bool × List (List Nat × List Nat) := (true, [([], []), ([0], [0]), ([1], [1]), ([], []), ([3], [3]), ([4, 2], [4]), ([2, 5], [2, 5]), ([], []), ([7, 6, 5, 0, 1, 2, 3, 4, 5, 6, 7], [6, 7])])
def impl_cloneHeap.B1 : List Nat := [0, 1, 3, 0, 8, 31, 63, 0, 255]
theorem impl_cloneHeap.tab1 : rtab .any (opsOf Try.f74 1) = impl_cloneHeap.T1 := by kernel_rfl
theorem impl_cloneHeap.bits1 : waitsOk impl_cloneHeap.T1.2 impl_cloneHeap.B1 = true := by kernel_rfl
def impl_cloneHeap.T5 : Bool × List (List Nat × List Nat) := (true, [([], []), ([0], [0]), ([], []), ([2], [2]), ([3], [3]), ([1, 4, 3], [1, 4]), ([0, 1, 2, 3, 4, 5], []), ([6, 5, 5, 0, 1, 2, 3, 4, 5], [5, 6])])
def impl_cloneHeap.B5 : List Nat := [0, 1, 0, 4, 12, 31, 63, 127]
theorem impl_cloneHeap.tab5 : rtab .any (opsOf Try.f74 5) = impl_cloneHeap.T5 := by kernel_rfl
theorem impl_cloneHeap.bits5 : waitsOk impl_cloneHeap.T5.2 impl_cloneHeap.B5 = true := by kernel_rfl
set_option maxHeartbeats 8000000 in
set_option maxRecDepth 100000 in
theorem impl_cloneHeap.calls (k : Nat) (A0_0 : Option Addr) (c0_0 : Nat) (l0_0 : List (List Int)) (A0_1 : Option Addr) (c0_1 : Nat) (l0_1 : List Bool) (A0_2 : Option Addr) (c0_2 : Nat) (l0_2 : List Int) (r1 : List (List Int)) (r2 : List Bool) (r3 : List Int) (w : World) (hr0_0 : Kd.C (Kd.slice 3 (Kd.int .i64)) w A0_0 l0_0.length l0_0) (hc0_0 : l0_0.length ≤ c0_0) (hr0_1 : Kd.C Kd.bool w A0_1 l0_1.length l0_1) (hc0_1 : l0_1.length ≤ c0_1) (hr0_2 : Kd.C (Kd.int .i64) w A0_2 l0_2.length l0_2) (hc0_2 : l0_2.length ≤ c0_2) (h : impl_cloneHeap.f k l0_0 l0_1 l0_2 = some (r1, r2, r3)) :
  Calls Try.prog 74 #[.agg #[.slice A0_0 l0_0.length c0_0, .slice A0_1 l0_1.length c0_1, .slice A0_2 l0_2.length c0_2]] w fun e w' => ∃ v0_ v1_ v2_ : Value, e = .returned (.agg #[v0_, v1_, v2_]) ∧ Kd.S (Kd.slice 3 (Kd.int .i64)) 24 w' w.heap.size (fun k_ => some k_ ≠ (v2_ : Value).ownBlock) v0_ r1 ∧ Kd.R Kd.bool 4 w' w.heap.size (fun _ => True) v1_ r2 ∧ Kd.R (Kd.int .i64) 3 w' w.heap.size (fun _ => True) v2_ r3 ∧ Below w.heap.size w w' := by
 have hu30 := Try.underlying30
 have HR0_0 := qm_ hr0_0
 have HC0_0 := qm_ hc0_0
 clear hr0_0 hc0_0
 have HR0_1 := qm_ hr0_1
 have HC0_1 := qm_ hc0_1
 clear hr0_1 hc0_1
 have HR0_2 := qm_ hr0_2
 have HC0_2 := qm_ hc0_2
 clear hr0_2 hc0_2
 have HB := qm_ (Below.refl w.heap.size w)
 have H : ((slices_Clone_bool_bool.f l0_1).bind fun t257 => ((slices_Clone_int_int.f l0_2).bind fun t260 => (impl_cloneHeap.l0 k l0_0 (l0_0.length : Int) 0 ([] : List (List Int)) t257 t260))) = some (r1, r2, r3) := h
 clear h
 replace H := Option.bind_eq_some_iff.mp H
 obtain ⟨t257, A20, H⟩ := H
 replace H : ((slices_Clone_int_int.f l0_2).bind fun t260 => (impl_cloneHeap.l0 k l0_0 (l0_0.length : Int) 0 ([] : List (List Int)) t257 t260)) = some (r1, r2, r3) := H
 have A2 := qm_ A20
 clear A20
 replace H := Option.bind_eq_some_iff.mp H
 obtain ⟨t260, A30, H⟩ := H
 replace H : (impl_cloneHeap.l0 k l0_0 (l0_0.length : Int) 0 ([] : List (List Int)) t257 t260) = some (r1, r2, r3) := H
 have A3 := qm_ A30
 clear A30
 have H' := qm_ H
 clear H
 go_enter Try.func74, Try.ntmps74
 try go_wp2_with (first | ((with_reducible refine gate_dst (N := 1) rfl ?_); refine box_event ?hg (N := 1) ?hd (cs := #[.slice A0_0 l0_0.length c0_0, .slice A0_1 l0_1.length c0_1, .slice A0_2 l0_2.length c0_2]) (t := 30) ?hr ?_; (case hd => rfl); (case hg => rfl); (case hr => first | (go_simp; done) | (go_simp; rfl)); intro gb255 hg w4 hbox hb; have n0_ := qm_ (qh_ (by repeat (first | (with_reducible first | exact HB.out | apply qc_ | apply qx_ | apply qf_) | exact HB.out)) hb); have n1_ := qm_ (hbox); have n2_ := qm_ ((by rw [hg]; exact (qz_ (by repeat (first | (with_reducible first | exact HB.out | apply qc_ | apply qx_ | apply qf_) | exact HB.out))) : w.heap.size ≤ gb255)); have n3_ := qm_ ((by rw [hg]; exact (qz_ (by repeat (first | (with_reducible first | exact HB.out | apply qc_ | apply qx_ | apply qf_) | exact HB.out))) : w.heap.size ≤ gb255)); clear HB; have HB := n0_; have BK255 := n1_; have GW255 := n2_; have GE255 := n3_; clear n0_ n1_ n2_ n3_; clear hb hbox hg) | ((with_reducible refine gate_dst (N := 2) rfl ?_); refine box_event ?hg (N := 2) ?hd (cs := #[.slice none 0 0, .slice none 0 0, .slice none 0 0]) (t := 30) ?hr ?_; (case hd => rfl); (case hg => rfl); (case hr => first | (go_simp; done) | (go_simp; rfl)); intro gb256 hg w5 hbox hb; have n0_ := qm_ (qs_ (g := gb255) (o := .cells #[.slice A0_0 l0_0.length c0_0, .slice A0_1 l0_1.length c0_1, .slice A0_2 l0_2.length c0_2] 30 (0, 0)) (by first | with_reducible exact BK255.out | with_reducible exact qu_ BK255.out _ | exact BK255.out | exact qw_ BK255.out _) hb); have n1_ := qm_ (qh_ (by repeat (first | (with_reducible first | exact HB.out | apply qc_ | apply qx_ | apply qf_ | refine qg_ ?_ GE255.out) | exact HB.out)) hb); have n2_ := qm_ (hbox); have n3_ := qm_ ((by rw [hg]; exact (qz_ (by repeat (first | (with_reducible first | exact HB.out | apply qc_ | apply qx_ | apply qf_ | refine qg_ ?_ GE255.out) | exact HB.out))) : w.heap.size ≤ gb256)); have n4_ := qm_ ((by rw [hg]; exact (qz_ (by repeat (first | (with_reducible first | exact HB.out | apply qc_ | apply qx_ | apply qf_ | refine qg_ ?_ GE255.out) | exact HB.out))) : w.heap.size ≤ gb256)); have n5_ := qm_ ((by rw [hg]; exact Nat.ne_of_lt (blk_lt (g := gb255) (o := .cells #[.slice A0_0 l0_0.length c0_0, .slice A0_1 l0_1.length c0_1, .slice A0_2 l0_2.length c0_2] 30 (0, 0)) (by first | with_reducible exact BK255.out | with_reducible exact qu_ BK255.out _ | exact BK255.out | exact qw_ BK255.out _)) : gb255 ≠ gb256)); have n6_ := qm_ ((by rw [hg]; exact Nat.ne_of_gt (blk_lt (g := gb255) (o := .cells #[.slice A0_0 l0_0.length c0_0, .slice A0_1 l0_1.length c0_1, .slice A0_2 l0_2.length c0_2] 30 (0, 0)) (by first | with_reducible exact BK255.out | with_reducible exact qu_ BK255.out _ | exact BK255.out | exact qw_ BK255.out _)) : gb256 ≠ gb255)); clear BK255; clear HB; have BK255 := n0_; have HB := n1_; have BK256 := n2_; have GW256 := n3_; have GE256 := n4_; have NB255_256 := n5_; have NB256_255 := n6_; clear n0_ n1_ n2_ n3_ n4_ n5_ n6_; clear hb hbox hg))
 have n0_ := qm_ (qv_ BK255.out)
 have n1_ := qm_ (qv_ BK256.out)
 have n2_ := qm_ (qf_ HB.out)
 clear BK255
 clear BK256
 clear HB
 have BK255 := n0_
 have BK256 := n1_
 have HB := n2_
 clear n0_ n1_ n2_
 refine start_ (n := 9) (S := fun w' => w'.cell? ⟨gb255, 0, none⟩ = some (.slice A0_0 l0_0.length c0_0) ∧ w'.cell? ⟨gb255, 1, none⟩ = some (.slice A0_1 l0_1.length c0_1) ∧ w'.cell? ⟨gb255, 2, none⟩ = some (.slice A0_2 l0_2.length c0_2)) (ds := []) #[false, false, false, false, false, false, false, false, false] (by kernel_rfl) rfl rfl ⟨(blk_cell BK255.out 0).trans rfl, (blk_cell BK255.out 1).trans rfl, (blk_cell BK255.out 2).trans rfl⟩ (fun hHeld => ?_); refine with_tabW impl_cloneHeap.tab1 impl_cloneHeap.bits1 (fun HT_ HW_ => ?_)
 generalize w5.drew = w6 at BK255 BK256 HB hHeld ⊢
 refine pure_ (i := 0) (N := some 6) (v := ?_) (a' := ?_) #[true, false, false, false, false, false, false, false, false] rfl rfl (any_of HT_.out (by kernel_rfl)) (fun _ _ _ h => h) (Or.inl ⟨by rfl, ?_⟩) ?_ ?_
 rotate_left
 ·intro w'
  go_simp
  with_reducible rfl
 rotate_left
 ·simp only [Act.put, la_, lb_, lc_, i64_w, i32_w]
  rfl
 refine pure_ (i := 3) (N := some 9) (v := ?_) (a' := ?_) #[true, false, false, true, false, false, false, false, false] rfl rfl (any_of HT_.out (by kernel_rfl)) (fun _ _ _ h => h) (Or.inl ⟨by rfl, ?_⟩) ?_ ?_
 rotate_left
 ·intro w'
  go_simp
  with_reducible rfl
 rotate_left
 ·simp only [Act.put, la_, lb_, lc_, i64_w, i32_w]
  rfl
 refine take_ (i := 1) (N := some 7) (v := ?_) (a' := ?_) #[true, true, false, true, false, false, false, false, false] rfl rfl (take_ofW HT_.out HW_.out (by kernel_rfl)) (fun _ _ _ h => h) (Or.inl ⟨by rfl, ?_⟩) hHeld ?_ ?_
 rotate_left
 ·rintro w' ⟨s0, s1, s2⟩
  go_simp
  with_reducible rfl
 rotate_left
 ·simp only [Act.put, la_, lb_, lc_, i64_w, i32_w]
  rfl
 refine take_ (i := 4) (N := some 10) (v := ?_) (a' := ?_) #[true, true, false, true, true, false, false, false, false] rfl rfl (take_ofW HT_.out HW_.out (by kernel_rfl)) (fun _ _ _ h => h) (Or.inl ⟨by rfl, ?_⟩) hHeld ?_ ?_
 rotate_left
 ·rintro w' ⟨s0, s1, s2⟩
  go_simp
  with_reducible rfl
 rotate_left
 ·simp only [Act.put, la_, lb_, lc_, i64_w, i32_w]
  rfl
 refine join_ (σ := Value × Value × Nat) 1 #[true, true, true, true, true, true, true, true, false] (fun s_ => [(8, s_.1), (11, s_.2.1), (3, .pointer (some ⟨s_.2.2, 0, none⟩)), (12, .agg #[.slice none 0 0, s_.1, s_.2.1])]) (fun s_ w' => (w'.cell? ⟨gb255, 0, none⟩ = some (.slice A0_0 l0_0.length c0_0) ∧ w'.cell? ⟨gb255, 1, none⟩ = some (.slice A0_1 l0_1.length c0_1) ∧ w'.cell? ⟨gb255, 2, none⟩ = some (.slice A0_2 l0_2.length c0_2)) ∧ (Kd.R Kd.bool 4 w' w.heap.size (fun _ => True) s_.1 t257) ∧ (Kd.R (Kd.int .i64) 3 w' w.heap.size (fun _ => True) s_.2.1 t260) ∧ (w'.heap[gb255]? = some (.cells #[.slice A0_0 l0_0.length c0_0, .slice A0_1 l0_1.length c0_1, .slice A0_2 l0_2.length c0_2] 30 (0, 0))) ∧ (w'.heap[gb256]? = some (.cells #[.slice none 0 0, .slice none 0 0, .slice none 0 0] 30 (0, 0))) ∧ (w'.heap[s_.2.2]? = some (.cells #[.slice none 0 0, .slice none 0 0, .slice none 0 0] 30 (0, 0))) ∧ (w.heap.size ≤ s_.2.2) ∧ (w.heap.size ≤ s_.2.2) ∧ (gb255 ≠ s_.2.2) ∧ (s_.2.2 ≠ gb255) ∧ (gb256 ≠ s_.2.2) ∧ (s_.2.2 ≠ gb256) ∧ (Below w.heap.size w w')) ?_ ?_
 rotate_left
 ·intro hCont
  refine two_ (i := 2) (j := 7) (Ni := some 8) (Nj := some 3) #[true, true, true, true, true, false, false, false, false] #[true, true, false, true, true, false, false, true, false] rfl rfl rfl rfl (two_of HT_.out (by kernel_rfl)) (by decide) (by decide) (fun K hK => ?_) (fun K hK => ?_)
  ·skip
   refine goes_ Try.func107 (by kernel_rfl) rfl #[.slice A0_1 l0_1.length c0_1] (by rfl) rfl rfl (by (try simp only [List.map_toArray, List.map_cons, List.map_nil]); first | done | rfl | (simp only [List.length_drop, List.length_take]; rfl)) ?_
   with_reducible refine (slices_Clone_bool_bool.calls _ _ l0_1 t257 _ ?side1 ?side2 A2.out).mono ?_
   (case side1 => repeat (first | exact (Kd.C_below HR0_1.out HB.out) | (with_reducible refine Kd.C_alloc ?_ _) | (with_reducible refine Kd.C_drewN ?_ _) | (with_reducible refine Kd.C_drew ?_)))
   (case side2 => exact HC0_1.out)
   rintro e w7 ⟨v258, rfl, ho0, hb⟩
   refine ⟨_, rfl, ?_⟩
   have n0_ := qm_ (ql_ ho0 (qz_ (by repeat (first | (with_reducible first | exact HB.out | apply qc_ | apply qx_ | apply qf_ | refine qg_ ?_ GE255.out | refine qg_ ?_ GE256.out) | exact HB.out))))
   have n1_ := qm_ (qs_ (g := gb255) (o := .cells #[.slice A0_0 l0_0.length c0_0, .slice A0_1 l0_1.length c0_1, .slice A0_2 l0_2.length c0_2] 30 (0, 0)) (by first | with_reducible exact BK255.out | with_reducible exact qu_ BK255.out _ | exact BK255.out | exact qw_ BK255.out _) hb)
   have n2_ := qm_ (qs_ (g := gb256) (o := .cells #[.slice none 0 0, .slice none 0 0, .slice none 0 0] 30 (0, 0)) (by first | with_reducible exact BK256.out | with_reducible exact qu_ BK256.out _ | exact BK256.out | exact qw_ BK256.out _) hb)
   have n3_ := qm_ (qh_ (by repeat (first | (with_reducible first | exact HB.out | apply qc_ | apply qx_ | apply qf_ | refine qg_ ?_ GE255.out | refine qg_ ?_ GE256.out) | exact HB.out)) hb)
   clear BK255
   clear BK256
   clear HB
   have HO259 := n0_
   have BK255 := n1_
   have BK256 := n2_
   have HB := n3_
   clear n0_ n1_ n2_ n3_
   (try clear hb)
   (try clear hb2)
   (try clear hk)
   (try clear hi)
   (try clear ho0)
   refine hK.out _ _ ⟨(blk_cell BK255.out 0).trans rfl, (blk_cell BK255.out 1).trans rfl, (blk_cell BK255.out 2).trans rfl⟩ (fun hHeld => ?_)
   clear hK K
   refine norm_ (a' := ?_) ?_ ?_
   rotate_left
   ·show Act.put _ (some 8) _ = _
    simp only [Act.put, la_, lb_, lc_, i64_w, i32_w]
    rfl
   refine two_ (i := 5) (j := 7) (Ni := some 11) (Nj := some 3) #[true, true, true, true, true, true, false, false, false] #[true, true, true, true, true, false, false, true, false] rfl rfl rfl rfl (two_of HT_.out (by kernel_rfl)) (by decide) (by decide) (fun K hK => ?_) (fun K hK => ?_)
   ·skip
    refine goes_ Try.func80 (by kernel_rfl) rfl #[.slice A0_2 l0_2.length c0_2] (by rfl) rfl rfl (by (try simp only [List.map_toArray, List.map_cons, List.map_nil]); first | done | rfl | (simp only [List.length_drop, List.length_take]; rfl)) ?_
    with_reducible refine (slices_Clone_int_int.calls _ _ l0_2 t260 _ ?side1 ?side2 A3.out).mono ?_
    (case side1 => repeat (first | exact (Kd.C_below HR0_2.out HB.out) | (with_reducible refine Kd.C_alloc ?_ _) | (with_reducible refine Kd.C_drewN ?_ _) | (with_reducible refine Kd.C_drew ?_)))
    (case side2 => exact HC0_2.out)
    rintro e w8 ⟨v261, rfl, ho0, hb⟩
    refine ⟨_, rfl, ?_⟩
    have n0_ := qm_ (qb_ (by (with_reducible repeat (first | apply qa_ | apply qn_ | apply qd_)); exact HO259.out) hb)
    have n1_ := qm_ (ql_ ho0 (qz_ (by repeat (first | (with_reducible first | exact HB.out | apply qc_ | apply qx_ | apply qf_ | refine qg_ ?_ GE255.out | refine qg_ ?_ GE256.out) | exact HB.out))))
    have n2_ := qm_ (qs_ (g := gb255) (o := .cells #[.slice A0_0 l0_0.length c0_0, .slice A0_1 l0_1.length c0_1, .slice A0_2 l0_2.length c0_2] 30 (0, 0)) (by first | with_reducible exact BK255.out | with_reducible exact qu_ BK255.out _ | exact BK255.out | exact qw_ BK255.out _) hb)
    have n3_ := qm_ (qs_ (g := gb256) (o := .cells #[.slice none 0 0, .slice none 0 0, .slice none 0 0] 30 (0, 0)) (by first | with_reducible exact BK256.out | with_reducible exact qu_ BK256.out _ | exact BK256.out | exact qw_ BK256.out _) hb)
    have n4_ := qm_ (qh_ (by repeat (first | (with_reducible first | exact HB.out | apply qc_ | apply qx_ | apply qf_ | refine qg_ ?_ GE255.out | refine qg_ ?_ GE256.out) | exact HB.out)) hb)
    clear HO259
    clear BK255
    clear BK256
    clear HB
    have HO259 := n0_
    have HO262 := n1_
    have BK255 := n2_
    have BK256 := n3_
    have HB := n4_
    clear n0_ n1_ n2_ n3_ n4_
    (try clear hb)
    (try clear hb2)
    (try clear hk)
    (try clear hi)
    (try clear ho0)
    obtain ⟨Ao9, co9, eo9⟩ := Kd.R_slice HO262.out
    (first | subst eo9 | (injection eo9 with f1_ f2_ f3_; have f4_ := f1_.symm; have f5_ := f3_.symm; clear f1_ f2_ f3_; subst f4_; subst f5_))
    obtain ⟨Ao10, co10, eo10⟩ := Kd.R_slice HO259.out
    (first | subst eo10 | (injection eo10 with f1_ f2_ f3_; have f4_ := f1_.symm; have f5_ := f3_.symm; clear f1_ f2_ f3_; subst f4_; subst f5_))
    refine hK.out _ _ ⟨(blk_cell BK255.out 0).trans rfl, (blk_cell BK255.out 1).trans rfl, (blk_cell BK255.out 2).trans rfl⟩ (fun hHeld => ?_)
    clear hK K
    refine norm_ (a' := ?_) ?_ ?_
    rotate_left
    ·show Act.put _ (some 11) _ = _
     simp only [Act.put, la_, lb_, lc_, i64_w, i32_w]
     rfl
    refine pure_ (i := 6) (N := some 12) (v := ?_) (a' := ?_) #[true, true, true, true, true, true, true, false, false] rfl rfl (any_of HT_.out (by kernel_rfl)) (fun _ _ _ h => h) (Or.inl ⟨by rfl, ?_⟩) ?_ ?_
    rotate_left
    ·intro w'
     go_simp
     with_reducible rfl
    rotate_left
    ·simp only [Act.put, la_, lb_, lc_, i64_w, i32_w]
     rfl
    refine one_ (i := 7) (N := some 3) #[true, true, true, true, true, true, true, true, false] rfl rfl (one_of HT_.out (by kernel_rfl)) (by decide) (fun K hK => ?_)
    refine box_step ?hg (N := 3) ?hd (cs := #[.slice none 0 0, .slice none 0 0, .slice none 0 0]) (t := 30) ?hr ?_; (case hd => rfl); (case hg => rfl); (case hr => first | (go_simp; done) | (go_simp; rfl))
    intro gb263 hg w11 hbox hb
    have n0_ := qm_ (qb_ (by (with_reducible repeat (first | apply qa_ | apply qn_ | apply qd_)); exact HO259.out) hb)
    have n1_ := qm_ (qb_ (by (with_reducible repeat (first | apply qa_ | apply qn_ | apply qd_)); exact HO262.out) hb)
    have n2_ := qm_ (qs_ (g := gb255) (o := .cells #[.slice A0_0 l0_0.length c0_0, .slice A0_1 l0_1.length c0_1, .slice A0_2 l0_2.length c0_2] 30 (0, 0)) (by first | with_reducible exact BK255.out | with_reducible exact qu_ BK255.out _ | exact BK255.out | exact qw_ BK255.out _) hb)
    have n3_ := qm_ (qs_ (g := gb256) (o := .cells #[.slice none 0 0, .slice none 0 0, .slice none 0 0] 30 (0, 0)) (by first | with_reducible exact BK256.out | with_reducible exact qu_ BK256.out _ | exact BK256.out | exact qw_ BK256.out _) hb)
    have n4_ := qm_ (qh_ (by repeat (first | (with_reducible first | exact HB.out | apply qc_ | apply qx_ | apply qf_ | refine qg_ ?_ GE255.out | refine qg_ ?_ GE256.out) | exact HB.out)) hb)
    have n5_ := qm_ (hbox)
    have n6_ := qm_ ((by rw [hg]; exact (qz_ (by repeat (first | (with_reducible first | exact HB.out | apply qc_ | apply qx_ | apply qf_ | refine qg_ ?_ GE255.out | refine qg_ ?_ GE256.out) | exact HB.out))) : w.heap.size ≤ gb263))
    have n7_ := qm_ ((by rw [hg]; exact (qz_ (by repeat (first | (with_reducible first | exact HB.out | apply qc_ | apply qx_ | apply qf_ | refine qg_ ?_ GE255.out | refine qg_ ?_ GE256.out) | exact HB.out))) : w.heap.size ≤ gb263))
    have n8_ := qm_ ((by rw [hg]; exact Nat.ne_of_lt (blk_lt (g := gb255) (o := .cells #[.slice A0_0 l0_0.length c0_0, .slice A0_1 l0_1.length c0_1, .slice A0_2 l0_2.length c0_2] 30 (0, 0)) (by first | with_reducible exact BK255.out | with_reducible exact qu_ BK255.out _ | exact BK255.out | exact qw_ BK255.out _)) : gb255 ≠ gb263))
    have n9_ := qm_ ((by rw [hg]; exact Nat.ne_of_gt (blk_lt (g := gb255) (o := .cells #[.slice A0_0 l0_0.length c0_0, .slice A0_1 l0_1.length c0_1, .slice A0_2 l0_2.length c0_2] 30 (0, 0)) (by first | with_reducible exact BK255.out | with_reducible exact qu_ BK255.out _ | exact BK255.out | exact qw_ BK255.out _)) : gb263 ≠ gb255))
    have n10_ := qm_ ((by rw [hg]; exact Nat.ne_of_lt (blk_lt (g := gb256) (o := .cells #[.slice none 0 0, .slice none 0 0, .slice none 0 0] 30 (0, 0)) (by first | with_reducible exact BK256.out | with_reducible exact qu_ BK256.out _ | exact BK256.out | exact qw_ BK256.out _)) : gb256 ≠ gb263))
    have n11_ := qm_ ((by rw [hg]; exact Nat.ne_of_gt (blk_lt (g := gb256) (o := .cells #[.slice none 0 0, .slice none 0 0, .slice none 0 0] 30 (0, 0)) (by first | with_reducible exact BK256.out | with_reducible exact qu_ BK256.out _ | exact BK256.out | exact qw_ BK256.out _)) : gb263 ≠ gb256))
    clear HO259
    clear HO262
    clear BK255
    clear BK256
    clear HB
    have HO259 := n0_
    have HO262 := n1_
    have BK255 := n2_
    have BK256 := n3_
    have HB := n4_
    have BK263 := n5_
    have GW263 := n6_
    have GE263 := n7_
    have NB255_263 := n8_
    have NB263_255 := n9_
    have NB256_263 := n10_
    have NB263_256 := n11_
    clear n0_ n1_ n2_ n3_ n4_ n5_ n6_ n7_ n8_ n9_ n10_ n11_
    clear hb hbox hg
    refine hK.out _ _ ⟨(blk_cell BK255.out 0).trans rfl, (blk_cell BK255.out 1).trans rfl, (blk_cell BK255.out 2).trans rfl⟩ (fun hHeld => ?_)
    clear hK K
    refine norm_ (a' := ?_) ?_ ?_
    rotate_left
    ·show Act.put _ (some 3) _ = _
     simp only [Act.put, la_, lb_, lc_, i64_w, i32_w]
     rfl
    exact norm_ (by simp only [putAll, Act.put, la_, lb_, lc_]) (hCont (.slice Ao10 t257.length co10, .slice Ao9 t260.length co9, gb263) _ ⟨hHeld, (by (with_reducible repeat (first | apply qa_ | apply qn_ | apply qd_)); exact HO259.out), (by (with_reducible repeat (first | apply qa_ | apply qn_ | apply qd_)); exact HO262.out), (by first | with_reducible exact BK255.out | with_reducible exact qu_ BK255.out _ | exact BK255.out | exact qw_ BK255.out _), (by first | with_reducible exact BK256.out | with_reducible exact qu_ BK256.out _ | exact BK256.out | exact qw_ BK256.out _), (by first | with_reducible exact BK263.out | with_reducible exact qu_ BK263.out _ | exact BK263.out | exact qw_ BK263.out _), GW263.out, GE263.out, NB255_263.out, NB263_255.out, NB256_263.out, NB263_256.out, (by repeat (first | (with_reducible first | exact HB.out | apply qc_ | apply qx_ | apply qf_ | refine qg_ ?_ GE255.out | refine qg_ ?_ GE256.out | refine qg_ ?_ GE263.out) | exact HB.out))⟩)
   ·skip
    refine box_step ?hg (N := 3) ?hd (cs := #[.slice none 0 0, .slice none 0 0, .slice none 0 0]) (t := 30) ?hr ?_; (case hd => rfl); (case hg => rfl); (case hr => first | (go_simp; done) | (go_simp; rfl))
    intro gb263 hg w8 hbox hb
    have n0_ := qm_ (qb_ (by (with_reducible repeat (first | apply qa_ | apply qn_ | apply qd_)); exact HO259.out) hb)
    have n1_ := qm_ (qs_ (g := gb255) (o := .cells #[.slice A0_0 l0_0.length c0_0, .slice A0_1 l0_1.length c0_1, .slice A0_2 l0_2.length c0_2] 30 (0, 0)) (by first | with_reducible exact BK255.out | with_reducible exact qu_ BK255.out _ | exact BK255.out | exact qw_ BK255.out _) hb)
    have n2_ := qm_ (qs_ (g := gb256) (o := .cells #[.slice none 0 0, .slice none 0 0, .slice none 0 0] 30 (0, 0)) (by first | with_reducible exact BK256.out | with_reducible exact qu_ BK256.out _ | exact BK256.out | exact qw_ BK256.out _) hb)
    have n3_ := qm_ (qh_ (by repeat (first | (with_reducible first | exact HB.out | apply qc_ | apply qx_ | apply qf_ | refine qg_ ?_ GE255.out | refine qg_ ?_ GE256.out) | exact HB.out)) hb)
    have n4_ := qm_ (hbox)
    have n5_ := qm_ ((by rw [hg]; exact (qz_ (by repeat (first | (with_reducible first | exact HB.out | apply qc_ | apply qx_ | apply qf_ | refine qg_ ?_ GE255.out | refine qg_ ?_ GE256.out) | exact HB.out))) : w.heap.size ≤ gb263))
    have n6_ := qm_ ((by rw [hg]; exact (qz_ (by repeat (first | (with_reducible first | exact HB.out | apply qc_ | apply qx_ | apply qf_ | refine qg_ ?_ GE255.out | refine qg_ ?_ GE256.out) | exact HB.out))) : w.heap.size ≤ gb263))
    have n7_ := qm_ ((by rw [hg]; exact Nat.ne_of_lt (blk_lt (g := gb255) (o := .cells #[.slice A0_0 l0_0.length c0_0, .slice A0_1 l0_1.length c0_1, .slice A0_2 l0_2.length c0_2] 30 (0, 0)) (by first | with_reducible exact BK255.out | with_reducible exact qu_ BK255.out _ | exact BK255.out | exact qw_ BK255.out _)) : gb255 ≠ gb263))
    have n8_ := qm_ ((by rw [hg]; exact Nat.ne_of_gt (blk_lt (g := gb255) (o := .cells #[.slice A0_0 l0_0.length c0_0, .slice A0_1 l0_1.length c0_1, .slice A0_2 l0_2.length c0_2] 30 (0, 0)) (by first | with_reducible exact BK255.out | with_reducible exact qu_ BK255.out _ | exact BK255.out | exact qw_ BK255.out _)) : gb263 ≠ gb255))
    have n9_ := qm_ ((by rw [hg]; exact Nat.ne_of_lt (blk_lt (g := gb256) (o := .cells #[.slice none 0 0, .slice none 0 0, .slice none 0 0] 30 (0, 0)) (by first | with_reducible exact BK256.out | with_reducible exact qu_ BK256.out _ | exact BK256.out | exact qw_ BK256.out _)) : gb256 ≠ gb263))
    have n10_ := qm_ ((by rw [hg]; exact Nat.ne_of_gt (blk_lt (g := gb256) (o := .cells #[.slice none 0 0, .slice none 0 0, .slice none 0 0] 30 (0, 0)) (by first | with_reducible exact BK256.out | with_reducible exact qu_ BK256.out _ | exact BK256.out | exact qw_ BK256.out _)) : gb263 ≠ gb256))
    clear HO259
    clear BK255
    clear BK256
    clear HB
    have HO259 := n0_
    have BK255 := n1_
    have BK256 := n2_
    have HB := n3_
    have BK263 := n4_
    have GW263 := n5_
    have GE263 := n6_
    have NB255_263 := n7_
    have NB263_255 := n8_
    have NB256_263 := n9_
    have NB263_256 := n10_
    clear n0_ n1_ n2_ n3_ n4_ n5_ n6_ n7_ n8_ n9_ n10_
    clear hb hbox hg
    refine hK.out _ _ ⟨(blk_cell BK255.out 0).trans rfl, (blk_cell BK255.out 1).trans rfl, (blk_cell BK255.out 2).trans rfl⟩ (fun hHeld => ?_)
    clear hK K
    refine norm_ (a' := ?_) ?_ ?_
    rotate_left
    ·show Act.put _ (some 3) _ = _
     simp only [Act.put, la_, lb_, lc_, i64_w, i32_w]
     rfl
    refine one_ (i := 5) (N := some 11) #[true, true, true, true, true, true, false, true, false] rfl rfl (one_of HT_.out (by kernel_rfl)) (by decide) (fun K hK => ?_)
    refine goes_ Try.func80 (by kernel_rfl) rfl #[.slice A0_2 l0_2.length c0_2] (by rfl) rfl rfl (by (try simp only [List.map_toArray, List.map_cons, List.map_nil]); first | done | rfl | (simp only [List.length_drop, List.length_take]; rfl)) ?_
    with_reducible refine (slices_Clone_int_int.calls _ _ l0_2 t260 _ ?side1 ?side2 A3.out).mono ?_
    (case side1 => repeat (first | exact (Kd.C_below HR0_2.out HB.out) | (with_reducible refine Kd.C_alloc ?_ _) | (with_reducible refine Kd.C_drewN ?_ _) | (with_reducible refine Kd.C_drew ?_)))
    (case side2 => exact HC0_2.out)
    rintro e w9 ⟨v261, rfl, ho0, hb⟩
    refine ⟨_, rfl, ?_⟩
    have n0_ := qm_ (qb_ (by (with_reducible repeat (first | apply qa_ | apply qn_ | apply qd_)); exact HO259.out) hb)
    have n1_ := qm_ (ql_ ho0 (qz_ (by repeat (first | (with_reducible first | exact HB.out | apply qc_ | apply qx_ | apply qf_ | refine qg_ ?_ GE255.out | refine qg_ ?_ GE256.out | refine qg_ ?_ GE263.out) | exact HB.out))))
    have n2_ := qm_ (qs_ (g := gb255) (o := .cells #[.slice A0_0 l0_0.length c0_0, .slice A0_1 l0_1.length c0_1, .slice A0_2 l0_2.length c0_2] 30 (0, 0)) (by first | with_reducible exact BK255.out | with_reducible exact qu_ BK255.out _ | exact BK255.out | exact qw_ BK255.out _) hb)
    have n3_ := qm_ (qs_ (g := gb256) (o := .cells #[.slice none 0 0, .slice none 0 0, .slice none 0 0] 30 (0, 0)) (by first | with_reducible exact BK256.out | with_reducible exact qu_ BK256.out _ | exact BK256.out | exact qw_ BK256.out _) hb)
    have n4_ := qm_ (qs_ (g := gb263) (o := .cells #[.slice none 0 0, .slice none 0 0, .slice none 0 0] 30 (0, 0)) (by first | with_reducible exact BK263.out | with_reducible exact qu_ BK263.out _ | exact BK263.out | exact qw_ BK263.out _) hb)
    have n5_ := qm_ (qh_ (by repeat (first | (with_reducible first | exact HB.out | apply qc_ | apply qx_ | apply qf_ | refine qg_ ?_ GE255.out | refine qg_ ?_ GE256.out | refine qg_ ?_ GE263.out) | exact HB.out)) hb)
    clear HO259
    clear BK255
    clear BK256
    clear BK263
    clear HB
    have HO259 := n0_
    have HO262 := n1_
    have BK255 := n2_
    have BK256 := n3_
    have BK263 := n4_
    have HB := n5_
    clear n0_ n1_ n2_ n3_ n4_ n5_
    (try clear hb)
    (try clear hb2)
    (try clear hk)
    (try clear hi)
    (try clear ho0)
    obtain ⟨Ao10, co10, eo10⟩ := Kd.R_slice HO262.out
    (first | subst eo10 | (injection eo10 with f1_ f2_ f3_; have f4_ := f1_.symm; have f5_ := f3_.symm; clear f1_ f2_ f3_; subst f4_; subst f5_))
    obtain ⟨Ao11, co11, eo11⟩ := Kd.R_slice HO259.out
    (first | subst eo11 | (injection eo11 with f1_ f2_ f3_; have f4_ := f1_.symm; have f5_ := f3_.symm; clear f1_ f2_ f3_; subst f4_; subst f5_))
    refine hK.out _ _ ⟨(blk_cell BK255.out 0).trans rfl, (blk_cell BK255.out 1).trans rfl, (blk_cell BK255.out 2).trans rfl⟩ (fun hHeld => ?_)
    clear hK K
    refine norm_ (a' := ?_) ?_ ?_
    rotate_left
    ·show Act.put _ (some 11) _ = _
     simp only [Act.put, la_, lb_, lc_, i64_w, i32_w]
     rfl
    refine pure_ (i := 6) (N := some 12) (v := ?_) (a' := ?_) #[true, true, true, true, true, true, true, true, false] rfl rfl (any_of HT_.out (by kernel_rfl)) (fun _ _ _ h => h) (Or.inl ⟨by rfl, ?_⟩) ?_ ?_
    rotate_left
    ·intro w'
     go_simp
     with_reducible rfl
    rotate_left
    ·simp only [Act.put, la_, lb_, lc_, i64_w, i32_w]
     rfl
    exact norm_ (by simp only [putAll, Act.put, la_, lb_, lc_]) (hCont (.slice Ao11 t257.length co11, .slice Ao10 t260.length co10, gb263) _ ⟨hHeld, (by (with_reducible repeat (first | apply qa_ | apply qn_ | apply qd_)); exact HO259.out), (by (with_reducible repeat (first | apply qa_ | apply qn_ | apply qd_)); exact HO262.out), (by first | with_reducible exact BK255.out | with_reducible exact qu_ BK255.out _ | exact BK255.out | exact qw_ BK255.out _), (by first | with_reducible exact BK256.out | with_reducible exact qu_ BK256.out _ | exact BK256.out | exact qw_ BK256.out _), (by first | with_reducible exact BK263.out | with_reducible exact qu_ BK263.out _ | exact BK263.out | exact qw_ BK263.out _), GW263.out, GE263.out, NB255_263.out, NB263_255.out, NB256_263.out, NB263_256.out, (by repeat (first | (with_reducible first | exact HB.out | apply qc_ | apply qx_ | apply qf_ | refine qg_ ?_ GE255.out | refine qg_ ?_ GE256.out | refine qg_ ?_ GE263.out) | exact HB.out))⟩)
  ·skip
   refine box_step ?hg (N := 3) ?hd (cs := #[.slice none 0 0, .slice none 0 0, .slice none 0 0]) (t := 30) ?hr ?_; (case hd => rfl); (case hg => rfl); (case hr => first | (go_simp; done) | (go_simp; rfl))
   intro gb263 hg w7 hbox hb
   have n0_ := qm_ (qs_ (g := gb255) (o := .cells #[.slice A0_0 l0_0.length c0_0, .slice A0_1 l0_1.length c0_1, .slice A0_2 l0_2.length c0_2] 30 (0, 0)) (by first | with_reducible exact BK255.out | with_reducible exact qu_ BK255.out _ | exact BK255.out | exact qw_ BK255.out _) hb)
   have n1_ := qm_ (qs_ (g := gb256) (o := .cells #[.slice none 0 0, .slice none 0 0, .slice none 0 0] 30 (0, 0)) (by first | with_reducible exact BK256.out | with_reducible exact qu_ BK256.out _ | exact BK256.out | exact qw_ BK256.out _) hb)
   have n2_ := qm_ (qh_ (by repeat (first | (with_reducible first | exact HB.out | apply qc_ | apply qx_ | apply qf_ | refine qg_ ?_ GE255.out | refine qg_ ?_ GE256.out) | exact HB.out)) hb)
   have n3_ := qm_ (hbox)
   have n4_ := qm_ ((by rw [hg]; exact (qz_ (by repeat (first | (with_reducible first | exact HB.out | apply qc_ | apply qx_ | apply qf_ | refine qg_ ?_ GE255.out | refine qg_ ?_ GE256.out) | exact HB.out))) : w.heap.size ≤ gb263))
   have n5_ := qm_ ((by rw [hg]; exact (qz_ (by repeat (first | (with_reducible first | exact HB.out | apply qc_ | apply qx_ | apply qf_ | refine qg_ ?_ GE255.out | refine qg_ ?_ GE256.out) | exact HB.out))) : w.heap.size ≤ gb263))
   have n6_ := qm_ ((by rw [hg]; exact Nat.ne_of_lt (blk_lt (g := gb255) (o := .cells #[.slice A0_0 l0_0.length c0_0, .slice A0_1 l0_1.length c0_1, .slice A0_2 l0_2.length c0_2] 30 (0, 0)) (by first | with_reducible exact BK255.out | with_reducible exact qu_ BK255.out _ | exact BK255.out | exact qw_ BK255.out _)) : gb255 ≠ gb263))
   have n7_ := qm_ ((by rw [hg]; exact Nat.ne_of_gt (blk_lt (g := gb255) (o := .cells #[.slice A0_0 l0_0.length c0_0, .slice A0_1 l0_1.length c0_1, .slice A0_2 l0_2.length c0_2] 30 (0, 0)) (by first | with_reducible exact BK255.out | with_reducible exact qu_ BK255.out _ | exact BK255.out | exact qw_ BK255.out _)) : gb263 ≠ gb255))
   have n8_ := qm_ ((by rw [hg]; exact Nat.ne_of_lt (blk_lt (g := gb256) (o := .cells #[.slice none 0 0, .slice none 0 0, .slice none 0 0] 30 (0, 0)) (by first | with_reducible exact BK256.out | with_reducible exact qu_ BK256.out _ | exact BK256.out | exact qw_ BK256.out _)) : gb256 ≠ gb263))
   have n9_ := qm_ ((by rw [hg]; exact Nat.ne_of_gt (blk_lt (g := gb256) (o := .cells #[.slice none 0 0, .slice none 0 0, .slice none 0 0] 30 (0, 0)) (by first | with_reducible exact BK256.out | with_reducible exact qu_ BK256.out _ | exact BK256.out | exact qw_ BK256.out _)) : gb263 ≠ gb256))
   clear BK255
   clear BK256
   clear HB
   have BK255 := n0_
   have BK256 := n1_
   have HB := n2_
   have BK263 := n3_
   have GW263 := n4_
   have GE263 := n5_
   have NB255_263 := n6_
   have NB263_255 := n7_
   have NB256_263 := n8_
   have NB263_256 := n9_
   clear n0_ n1_ n2_ n3_ n4_ n5_ n6_ n7_ n8_ n9_
   clear hb hbox hg
   refine hK.out _ _ ⟨(blk_cell BK255.out 0).trans rfl, (blk_cell BK255.out 1).trans rfl, (blk_cell BK255.out 2).trans rfl⟩ (fun hHeld => ?_)
   clear hK K
   refine norm_ (a' := ?_) ?_ ?_
   rotate_left
   ·show Act.put _ (some 3) _ = _
    simp only [Act.put, la_, lb_, lc_, i64_w, i32_w]
    rfl
   refine one_ (i := 2) (N := some 8) #[true, true, true, true, true, false, false, true, false] rfl rfl (one_of HT_.out (by kernel_rfl)) (by decide) (fun K hK => ?_)
   refine goes_ Try.func107 (by kernel_rfl) rfl #[.slice A0_1 l0_1.length c0_1] (by rfl) rfl rfl (by (try simp only [List.map_toArray, List.map_cons, List.map_nil]); first | done | rfl | (simp only [List.length_drop, List.length_take]; rfl)) ?_
   with_reducible refine (slices_Clone_bool_bool.calls _ _ l0_1 t257 _ ?side1 ?side2 A2.out).mono ?_
   (case side1 => repeat (first | exact (Kd.C_below HR0_1.out HB.out) | (with_reducible refine Kd.C_alloc ?_ _) | (with_reducible refine Kd.C_drewN ?_ _) | (with_reducible refine Kd.C_drew ?_)))
   (case side2 => exact HC0_1.out)
   rintro e w8 ⟨v258, rfl, ho0, hb⟩
   refine ⟨_, rfl, ?_⟩
   have n0_ := qm_ (ql_ ho0 (qz_ (by repeat (first | (with_reducible first | exact HB.out | apply qc_ | apply qx_ | apply qf_ | refine qg_ ?_ GE255.out | refine qg_ ?_ GE256.out | refine qg_ ?_ GE263.out) | exact HB.out))))
   have n1_ := qm_ (qs_ (g := gb255) (o := .cells #[.slice A0_0 l0_0.length c0_0, .slice A0_1 l0_1.length c0_1, .slice A0_2 l0_2.length c0_2] 30 (0, 0)) (by first | with_reducible exact BK255.out | with_reducible exact qu_ BK255.out _ | exact BK255.out | exact qw_ BK255.out _) hb)
   have n2_ := qm_ (qs_ (g := gb256) (o := .cells #[.slice none 0 0, .slice none 0 0, .slice none 0 0] 30 (0, 0)) (by first | with_reducible exact BK256.out | with_reducible exact qu_ BK256.out _ | exact BK256.out | exact qw_ BK256.out _) hb)
   have n3_ := qm_ (qs_ (g := gb263) (o := .cells #[.slice none 0 0, .slice none 0 0, .slice none 0 0] 30 (0, 0)) (by first | with_reducible exact BK263.out | with_reducible exact qu_ BK263.out _ | exact BK263.out | exact qw_ BK263.out _) hb)
   have n4_ := qm_ (qh_ (by repeat (first | (with_reducible first | exact HB.out | apply qc_ | apply qx_ | apply qf_ | refine qg_ ?_ GE255.out | refine qg_ ?_ GE256.out | refine qg_ ?_ GE263.out) | exact HB.out)) hb)
   clear BK255
   clear BK256
   clear BK263
   clear HB
   have HO259 := n0_
   have BK255 := n1_
   have BK256 := n2_
   have BK263 := n3_
   have HB := n4_
   clear n0_ n1_ n2_ n3_ n4_
   (try clear hb)
   (try clear hb2)
   (try clear hk)
   (try clear hi)
   (try clear ho0)
   refine hK.out _ _ ⟨(blk_cell BK255.out 0).trans rfl, (blk_cell BK255.out 1).trans rfl, (blk_cell BK255.out 2).trans rfl⟩ (fun hHeld => ?_)
   clear hK K
   refine norm_ (a' := ?_) ?_ ?_
   rotate_left
   ·show Act.put _ (some 8) _ = _
    simp only [Act.put, la_, lb_, lc_, i64_w, i32_w]
    rfl
   refine one_ (i := 5) (N := some 11) #[true, true, true, true, true, true, false, true, false] rfl rfl (one_of HT_.out (by kernel_rfl)) (by decide) (fun K hK => ?_)
   refine goes_ Try.func80 (by kernel_rfl) rfl #[.slice A0_2 l0_2.length c0_2] (by rfl) rfl rfl (by (try simp only [List.map_toArray, List.map_cons, List.map_nil]); first | done | rfl | (simp only [List.length_drop, List.length_take]; rfl)) ?_
   with_reducible refine (slices_Clone_int_int.calls _ _ l0_2 t260 _ ?side1 ?side2 A3.out).mono ?_
   (case side1 => repeat (first | exact (Kd.C_below HR0_2.out HB.out) | (with_reducible refine Kd.C_alloc ?_ _) | (with_reducible refine Kd.C_drewN ?_ _) | (with_reducible refine Kd.C_drew ?_)))
   (case side2 => exact HC0_2.out)
   rintro e w9 ⟨v261, rfl, ho0, hb⟩
   refine ⟨_, rfl, ?_⟩
   have n0_ := qm_ (qb_ (by (with_reducible repeat (first | apply qa_ | apply qn_ | apply qd_)); exact HO259.out) hb)
   have n1_ := qm_ (ql_ ho0 (qz_ (by repeat (first | (with_reducible first | exact HB.out | apply qc_ | apply qx_ | apply qf_ | refine qg_ ?_ GE255.out | refine qg_ ?_ GE256.out | refine qg_ ?_ GE263.out) | exact HB.out))))
   have n2_ := qm_ (qs_ (g := gb255) (o := .cells #[.slice A0_0 l0_0.length c0_0, .slice A0_1 l0_1.length c0_1, .slice A0_2 l0_2.length c0_2] 30 (0, 0)) (by first | with_reducible exact BK255.out | with_reducible exact qu_ BK255.out _ | exact BK255.out | exact qw_ BK255.out _) hb)
   have n3_ := qm_ (qs_ (g := gb256) (o := .cells #[.slice none 0 0, .slice none 0 0, .slice none 0 0] 30 (0, 0)) (by first | with_reducible exact BK256.out | with_reducible exact qu_ BK256.out _ | exact BK256.out | exact qw_ BK256.out _) hb)
   have n4_ := qm_ (qs_ (g := gb263) (o := .cells #[.slice none 0 0, .slice none 0 0, .slice none 0 0] 30 (0, 0)) (by first | with_reducible exact BK263.out | with_reducible exact qu_ BK263.out _ | exact BK263.out | exact qw_ BK263.out _) hb)
   have n5_ := qm_ (qh_ (by repeat (first | (with_reducible first | exact HB.out | apply qc_ | apply qx_ | apply qf_ | refine qg_ ?_ GE255.out | refine qg_ ?_ GE256.out | refine qg_ ?_ GE263.out) | exact HB.out)) hb)
   clear HO259
   clear BK255
   clear BK256
   clear BK263
   clear HB
   have HO259 := n0_
   have HO262 := n1_
   have BK255 := n2_
   have BK256 := n3_
   have BK263 := n4_
   have HB := n5_
   clear n0_ n1_ n2_ n3_ n4_ n5_
   (try clear hb)
   (try clear hb2)
   (try clear hk)
   (try clear hi)
   (try clear ho0)
   obtain ⟨Ao10, co10, eo10⟩ := Kd.R_slice HO262.out
   (first | subst eo10 | (injection eo10 with f1_ f2_ f3_; have f4_ := f1_.symm; have f5_ := f3_.symm; clear f1_ f2_ f3_; subst f4_; subst f5_))
   obtain ⟨Ao11, co11, eo11⟩ := Kd.R_slice HO259.out
   (first | subst eo11 | (injection eo11 with f1_ f2_ f3_; have f4_ := f1_.symm; have f5_ := f3_.symm; clear f1_ f2_ f3_; subst f4_; subst f5_))
   refine hK.out _ _ ⟨(blk_cell BK255.out 0).trans rfl, (blk_cell BK255.out 1).trans rfl, (blk_cell BK255.out 2).trans rfl⟩ (fun hHeld => ?_)
   clear hK K
   refine norm_ (a' := ?_) ?_ ?_
   rotate_left
   ·show Act.put _ (some 11) _ = _
    simp only [Act.put, la_, lb_, lc_, i64_w, i32_w]
    rfl
   refine pure_ (i := 6) (N := some 12) (v := ?_) (a' := ?_) #[true, true, true, true, true, true, true, true, false] rfl rfl (any_of HT_.out (by kernel_rfl)) (fun _ _ _ h => h) (Or.inl ⟨by rfl, ?_⟩) ?_ ?_
   rotate_left
   ·intro w'
    go_simp
    with_reducible rfl
   rotate_left
   ·simp only [Act.put, la_, lb_, lc_, i64_w, i32_w]
    rfl
   exact norm_ (by simp only [putAll, Act.put, la_, lb_, lc_]) (hCont (.slice Ao11 t257.length co11, .slice Ao10 t260.length co10, gb263) _ ⟨hHeld, (by (with_reducible repeat (first | apply qa_ | apply qn_ | apply qd_)); exact HO259.out), (by (with_reducible repeat (first | apply qa_ | apply qn_ | apply qd_)); exact HO262.out), (by first | with_reducible exact BK255.out | with_reducible exact qu_ BK255.out _ | exact BK255.out | exact qw_ BK255.out _), (by first | with_reducible exact BK256.out | with_reducible exact qu_ BK256.out _ | exact BK256.out | exact qw_ BK256.out _), (by first | with_reducible exact BK263.out | with_reducible exact qu_ BK263.out _ | exact BK263.out | exact qw_ BK263.out _), GW263.out, GE263.out, NB255_263.out, NB263_255.out, NB256_263.out, NB263_256.out, (by repeat (first | (with_reducible first | exact HB.out | apply qc_ | apply qx_ | apply qf_ | refine qg_ ?_ GE255.out | refine qg_ ?_ GE256.out | refine qg_ ?_ GE263.out) | exact HB.out))⟩)
 rintro ⟨v258, v261, gb263⟩ w12 ⟨hS_, h0_, h1_, h2_, h3_, h4_, h5_, h6_, h7_, h8_, h9_, h10_, h11_⟩
 have n0_ : Aside0 (Kd.R Kd.bool 4 w12 w.heap.size (fun _ => True) v258 t257) := ⟨h0_⟩
 have n1_ : Aside0 (Kd.R (Kd.int .i64) 3 w12 w.heap.size (fun _ => True) v261 t260) := ⟨h1_⟩
 have n2_ : Aside0 (w12.heap[gb255]? = some (.cells #[.slice A0_0 l0_0.length c0_0, .slice A0_1 l0_1.length c0_1, .slice A0_2 l0_2.length c0_2] 30 (0, 0))) := ⟨h2_⟩
 have n3_ : Aside0 (w12.heap[gb256]? = some (.cells #[.slice none 0 0, .slice none 0 0, .slice none 0 0] 30 (0, 0))) := ⟨h3_⟩
 have n4_ : Aside0 (w12.heap[gb263]? = some (.cells #[.slice none 0 0, .slice none 0 0, .slice none 0 0] 30 (0, 0))) := ⟨h4_⟩
 have n5_ : Aside0 (w.heap.size ≤ gb263) := ⟨h5_⟩
 have n6_ : Aside0 (w.heap.size ≤ gb263) := ⟨h6_⟩
 have n7_ : Aside0 (gb255 ≠ gb263) := ⟨h7_⟩
 have n8_ : Aside0 (gb263 ≠ gb255) := ⟨h8_⟩
 have n9_ : Aside0 (gb256 ≠ gb263) := ⟨h9_⟩
 have n10_ : Aside0 (gb263 ≠ gb256) := ⟨h10_⟩
 have n11_ : Aside0 (Below w.heap.size w w12) := ⟨h11_⟩
 clear BK255
 clear BK256
 clear HB
 clear h0_ h1_ h2_ h3_ h4_ h5_ h6_ h7_ h8_ h9_ h10_ h11_
 have HO259 := n0_
 have HO262 := n1_
 have BK255 := n2_
 have BK256 := n3_
 have BK263 := n4_
 have GW263 := n5_
 have GE263 := n6_
 have NB255_263 := n7_
 have NB263_255 := n8_
 have NB256_263 := n9_
 have NB263_256 := n10_
 have HB := n11_
 clear n0_ n1_ n2_ n3_ n4_ n5_ n6_ n7_ n8_ n9_ n10_ n11_
 have hHeld : w12.cell? ⟨gb255, 0, none⟩ = some (.slice A0_0 l0_0.length c0_0) ∧ w12.cell? ⟨gb255, 1, none⟩ = some (.slice A0_1 l0_1.length c0_1) ∧ w12.cell? ⟨gb255, 2, none⟩ = some (.slice A0_2 l0_2.length c0_2) := hS_
 obtain ⟨Ao13, co13, eo13⟩ := Kd.R_slice HO262.out
 (first | subst eo13 | (injection eo13 with f1_ f2_ f3_; have f4_ := f1_.symm; have f5_ := f3_.symm; clear f1_ f2_ f3_; subst f4_; subst f5_))
 obtain ⟨Ao14, co14, eo14⟩ := Kd.R_slice HO259.out
 (first | subst eo14 | (injection eo14 with f1_ f2_ f3_; have f4_ := f1_.symm; have f5_ := f3_.symm; clear f1_ f2_ f3_; subst f4_; subst f5_))
 refine norm_ (a' := ?_) ?_ ?_
 rotate_left
 ·simp only [putAll, Act.put, la_, lb_, lc_]
  rfl
 refine one_ (i := 8) (N := none) #[true, true, true, true, true, true, true, true, true] rfl rfl (one_of HT_.out (by kernel_rfl)) (by decide) (fun K hK => ?_)
 have hs15 : w12.cell? ⟨gb263, 0, none⟩ = some (.slice none 0 0) := (blk_cell BK263.out 0).trans rfl
 have hfs15 := blk_frozen BK263.out 0
 have hns15_0 := NB255_263.out
 have hns15_1 := NB256_263.out
 have hms15_0 := NB263_255.out
 have hms15_1 := NB263_256.out
 have hs16 : w12.cell? ⟨gb263, 1, none⟩ = some (.slice none 0 0) := (blk_cell BK263.out 1).trans rfl
 have hfs16 := blk_frozen BK263.out 1
 have hns16_0 := NB255_263.out
 have hns16_1 := NB256_263.out
 have hms16_0 := NB263_255.out
 have hms16_1 := NB263_256.out
 have hs17 : w12.cell? ⟨gb263, 2, none⟩ = some (.slice none 0 0) := (blk_cell BK263.out 2).trans rfl
 have hfs17 := blk_frozen BK263.out 2
 have hns17_0 := NB255_263.out
 have hns17_1 := NB256_263.out
 have hms17_0 := NB263_255.out
 have hms17_1 := NB263_256.out
 refine skip_ (w1 := ?_) (by rfl) rfl ?_ ?_
 rotate_left
 ·go_simp
  rfl
 refine hK.out _ _ ⟨((cell_far (p := ⟨gb263, _, none⟩) NB255_263.out _).trans (((cell_far (p := ⟨gb263, _, none⟩) NB255_263.out _).trans (((cell_far (p := ⟨gb263, _, none⟩) NB255_263.out _).trans (hHeld.1)))))), ((cell_far (p := ⟨gb263, _, none⟩) NB255_263.out _).trans (((cell_far (p := ⟨gb263, _, none⟩) NB255_263.out _).trans (((cell_far (p := ⟨gb263, _, none⟩) NB255_263.out _).trans (hHeld.2.1)))))), ((cell_far (p := ⟨gb263, _, none⟩) NB255_263.out _).trans (((cell_far (p := ⟨gb263, _, none⟩) NB255_263.out _).trans (((cell_far (p := ⟨gb263, _, none⟩) NB255_263.out _).trans (hHeld.2.2))))))⟩ (fun hHeld => ?_)
 clear hK K
 refine done_ (done_of HT_.out (by kernel_rfl)) ?_
 have hnb18 := NB255_256.out
 have hnc18 := NB256_255.out
 have hnb19 := NB255_263.out
 have hnc19 := NB263_255.out
 have hcz20_0 : w12.cell? ⟨gb255, 0, none⟩ = some (.slice A0_0 l0_0.length c0_0) := (blk_cell BK255.out 0).trans rfl
 have hcz20_1 : w12.cell? ⟨gb255, 1, none⟩ = some (.slice A0_1 l0_1.length c0_1) := (blk_cell BK255.out 1).trans rfl
 have hcz20_2 : w12.cell? ⟨gb255, 2, none⟩ = some (.slice A0_2 l0_2.length c0_2) := (blk_cell BK255.out 2).trans rfl
 have hfz20_0 := blk_frozen BK255.out 0
 have hfz20_1 := blk_frozen BK255.out 1
 have hfz20_2 := blk_frozen BK255.out 2
 try go_wp2
 go_loopg [16] k (fun kq v16 w' => ∃ (x16_1 : Int) (x264000_1 : List (List Int)) (u264000 : Value), v16 = .int .i64 x16_1 ∧ Aside0 (impl_cloneHeap.l0 kq l0_0 (l0_0.length : Int) x16_1 x264000_1 t257 t260 = some (r1, r2, r3)) ∧ Aside0 (kq ≤ k) ∧ Aside0 (Kd.S (Kd.slice 3 (Kd.int .i64)) 24 w' w.heap.size (fun k_ => some k_ ≠ ((.slice Ao13 t260.length co13) : Value).ownBlock) u264000 x264000_1) ∧ Aside0 (Kd.R Kd.bool 4 w' w.heap.size (fun _ => True) (.slice Ao14 t257.length co14) t257) ∧ Aside0 (Kd.R (Kd.int .i64) 3 w' w.heap.size (fun _ => True) (.slice Ao13 t260.length co13) t260) ∧ Aside0 (w'.heap[gb255]? = some (.cells #[(.slice A0_0 l0_0.length c0_0), (.slice A0_1 l0_1.length c0_1), (.slice A0_2 l0_2.length c0_2)] 30 (0, 0))) ∧ Aside0 (w'.heap[gb256]? = some (.cells #[(.slice none 0 0), (.slice none 0 0), (.slice none 0 0)] 30 (0, 0))) ∧ Aside0 (w'.heap[gb263]? = some (.cells #[u264000, (.slice Ao14 t257.length co14), (.slice Ao13 t260.length co13)] 30 (0, 0))) ∧ Aside0 (Below w.heap.size w w'))
 case atStart => exact ⟨(0), (([] : List (List Int))), (.slice none 0 0), (by first | rfl | (simp; done) | (simp [*]; done)), H', ⟨Nat.le_refl _⟩, ⟨by first | exact Kd.S_nil _ _ _ _ _ | exact Kd.N_nil _ _ _ _ _ | exact Kd.V_nil _ _ _ _ _ | exact Kd.Q_nil _ _ _ _ _ | exact Kd.R_nil _ _ _ _ _⟩, ⟨by (with_reducible repeat (first | apply qa_ | apply qn_ | apply qd_)); exact Kd.R_mono (Kd.R_far (p := ⟨gb263, 2, none⟩) (Kd.R_far (p := ⟨gb263, 1, none⟩) (Kd.R_far (p := ⟨gb263, 0, none⟩) (Kd.R_types HO259.out BK263.out (by decide)) (fun _ hk => hk.2) (.slice none 0 0)) (fun _ hk => hk.2) (.slice Ao14 t257.length co14)) (fun _ hk => hk.2) (.slice Ao13 t260.length co13)) (fun _ hk => trivial)⟩, ⟨by (with_reducible repeat (first | apply qa_ | apply qn_ | apply qd_)); exact Kd.R_mono (Kd.R_far (p := ⟨gb263, 2, none⟩) (Kd.R_far (p := ⟨gb263, 1, none⟩) (Kd.R_far (p := ⟨gb263, 0, none⟩) (Kd.R_types HO262.out BK263.out (by decide)) (fun _ hk => hk.2) (.slice none 0 0)) (fun _ hk => hk.2) (.slice Ao14 t257.length co14)) (fun _ hk => hk.2) (.slice Ao13 t260.length co13)) (fun _ hk => trivial)⟩, ⟨by (with_reducible repeat (first | refine qu_ ?_ _ | refine qv_ ?_ | refine qw_ ?_ _)); refine blk_far ?_ NB255_263.out _; (with_reducible repeat (first | refine qu_ ?_ _ | refine qv_ ?_ | refine qw_ ?_ _)); refine blk_far ?_ NB255_263.out _; (with_reducible repeat (first | refine qu_ ?_ _ | refine qv_ ?_ | refine qw_ ?_ _)); refine blk_far ?_ NB255_263.out _; (with_reducible repeat (first | refine qu_ ?_ _ | refine qv_ ?_ | refine qw_ ?_ _)); exact BK255.out⟩, ⟨by (with_reducible repeat (first | refine qu_ ?_ _ | refine qv_ ?_ | refine qw_ ?_ _)); refine blk_far ?_ NB256_263.out _; (with_reducible repeat (first | refine qu_ ?_ _ | refine qv_ ?_ | refine qw_ ?_ _)); refine blk_far ?_ NB256_263.out _; (with_reducible repeat (first | refine qu_ ?_ _ | refine qv_ ?_ | refine qw_ ?_ _)); refine blk_far ?_ NB256_263.out _; (with_reducible repeat (first | refine qu_ ?_ _ | refine qv_ ?_ | refine qw_ ?_ _)); exact BK256.out⟩, ⟨by (with_reducible repeat (first | refine qu_ ?_ _ | refine qv_ ?_ | refine qw_ ?_ _)); refine blk_put (cs := #[.slice none 0 0, .slice Ao14 t257.length co14, .slice none 0 0]) ?_ 2 _ rfl; (with_reducible repeat (first | refine qu_ ?_ _ | refine qv_ ?_ | refine qw_ ?_ _)); refine blk_put (cs := #[.slice none 0 0, .slice none 0 0, .slice none 0 0]) ?_ 1 _ rfl; (with_reducible repeat (first | refine qu_ ?_ _ | refine qv_ ?_ | refine qw_ ?_ _)); refine blk_put (cs := #[.slice none 0 0, .slice none 0 0, .slice none 0 0]) ?_ 0 _ rfl; (with_reducible repeat (first | refine qu_ ?_ _ | refine qv_ ?_ | refine qw_ ?_ _)); exact BK263.out⟩, ⟨by repeat (first | (with_reducible first | exact HB.out | apply qc_ | apply qx_ | apply qf_ | refine qg_ ?_ GE255.out | refine qg_ ?_ GE256.out | refine qg_ ?_ GE263.out) | exact HB.out)⟩⟩
 case round =>
  clear H'
  try clear c1
  try clear p2
  try clear c7
  try clear c8
  try clear c10
  try clear c18
  try clear c19
  try clear hcz20_0
  try clear hcz20_1
  try clear hcz20_2
  try clear hfz20_0
  try clear hfz20_1
  try clear hfz20_2
  obtain ⟨x16_1, x264000_1, u264000, rfl, HA, HK1, HO_264000, HO_264001, HO_264002, BK255, BK256, BK263, HB⟩ := hrel
  cases gk with
  | zero => exact absurd HA.out (by simp [impl_cloneHeap.l0])
  | succ k1 =>
   have H := HA.out
   clear HA
   simp only [impl_cloneHeap.l0] at H
   by_cases c21 : x16_1 < (l0_0.length : Int)
   ·rw [if_pos c21] at H
    have c21b0 : decide (x16_1 < (l0_0.length : Int)) = true := decide_eq_true c21
    clear c21
    by_cases c22 : 0 ≤ x16_1
    ·rw [if_pos c22] at H
     have c22b0 : decide (0 ≤ x16_1) = true := decide_eq_true c22
     clear c22
     by_cases c23 : x16_1 < (l0_0.length : Int)
     ·rw [if_pos c23] at H
      have c23b0 : decide (x16_1 < (l0_0.length : Int)) = true := decide_eq_true c23
      clear c23
      replace H := Option.bind_eq_some_iff.mp H
      obtain ⟨t265, A240, H⟩ := H
      replace H : (if x264000_1.length < 5864062014805 then (impl_cloneHeap.l0 k1 l0_0 (l0_0.length : Int) (wrap64 (x16_1 + 1)) (x264000_1 ++ [t265]) t257 t260) else (none)) = some (r1, r2, r3) := H
      have A24 := qm_ A240
      clear A240
      by_cases c25 : x264000_1.length < 5864062014805
      ·rw [if_pos c25] at H
       have LMc25 := qm_ c25
       clear c25
       obtain ⟨y268, hy268⟩ : ∃ y_ : List (List Int), y_ = (x264000_1 ++ [t265]) := ⟨_, rfl⟩
       replace H : (impl_cloneHeap.l0 k1 l0_0 (l0_0.length : Int) (wrap64 (x16_1 + 1)) y268 t257 t260) = some (r1, r2, r3) := by first | (rw [hy268]; with_reducible exact H) | (have H2_ := (Option.bind_some _ _).symm.trans H; rw [hy268]; with_reducible exact H2_) | (have H2_ := (Option.bind_some _ _).symm.trans H; with_reducible exact H2_) | with_reducible exact H | (rw [hy268]; exact H) | exact H
       have Ny268 := qm_ hy268
       clear hy268
       have H' := qm_ H
       clear H
       have p264 : 0 ≤ (x16_1 : Int) := of_decide_eq_true (by first | (with_reducible assumption) | assumption)
       have q264 : x16_1 < (l0_0.length : Int) := of_decide_eq_true (by first | (with_reducible assumption) | assumption)
       obtain ⟨ad264, A264_0, c264_0, e264, hx264_0, hl264_0, hi264_0⟩ := at_L1 HR0_0.out x16_1 p264 q264
       cases e264
       replace hx264_0 := (HB.out.cell (World.block_lt_of_cell? w _ hx264_0)).trans hx264_0
       have HR264_0 := qm_ hi264_0
       have HC264_0 := qm_ hl264_0
       clear hi264_0 hl264_0
       replace p264 := eq_true p264
       replace q264 := eq_true q264
       try go_wp2
       have n0_ := qm_ (Kd.S_drew HO_264000.out)
       have n1_ := qm_ (qd_ HO_264001.out)
       have n2_ := qm_ (qd_ HO_264002.out)
       have n3_ := qm_ (qv_ BK255.out)
       have n4_ := qm_ (qv_ BK256.out)
       have n5_ := qm_ (qv_ BK263.out)
       have n6_ := qm_ (qf_ HB.out)
       clear HO_264000
       clear HO_264001
       clear HO_264002
       clear BK255
       clear BK256
       clear BK263
       clear HB
       have HO_264000 := n0_
       have HO_264001 := n1_
       have HO_264002 := n2_
       have BK255 := n3_
       have BK256 := n4_
       have BK263 := n5_
       have HB := n6_
       clear n0_ n1_ n2_ n3_ n4_ n5_ n6_
       refine start_ (n := 8) (S := fun w' => w'.cell? ⟨gb263, 0, none⟩ = some (u264000) ∧ w'.cell? ⟨gb263, 1, none⟩ = some (.slice Ao14 t257.length co14) ∧ w'.cell? ⟨gb263, 2, none⟩ = some (.slice Ao13 t260.length co13)) (ds := [7]) #[false, false, false, false, false, false, false, false] (by kernel_rfl) rfl rfl ⟨(blk_cell BK263.out 0).trans rfl, (blk_cell BK263.out 1).trans rfl, (blk_cell BK263.out 2).trans rfl⟩ (fun hHeld => ?_); refine with_tabW impl_cloneHeap.tab5 impl_cloneHeap.bits5 (fun HT_ HW_ => ?_)
       generalize wr.drew = w26 at HO_264000 HO_264001 HO_264002 BK255 BK256 BK263 HB hHeld ⊢
       refine pure_ (i := 0) (N := some 20) (v := ?_) (a' := ?_) #[true, false, false, false, false, false, false, false] rfl rfl (any_of HT_.out (by kernel_rfl)) (fun _ _ _ h => h) (Or.inl ⟨by rfl, ?_⟩) ?_ ?_
       rotate_left
       ·intro w'
        go_simp
        with_reducible rfl
       rotate_left
       ·simp only [Act.put, la_, lb_, lc_, i64_w, i32_w]
        rfl
       refine pure_ (i := 2) (N := some 22) (v := ?_) (a' := ?_) #[true, false, true, false, false, false, false, false] rfl rfl (any_of HT_.out (by kernel_rfl)) (fun _ _ _ h => h) (Or.inl ⟨by rfl, ?_⟩) ?_ ?_
       rotate_left
       ·intro w'
        go_simp
        with_reducible rfl
       rotate_left
       ·simp only [Act.put, la_, lb_, lc_, i64_w, i32_w]
        rfl
       refine take_ (i := 1) (N := some 21) (v := ?_) (a' := ?_) #[true, true, true, false, false, false, false, false] rfl rfl (take_ofW HT_.out HW_.out (by kernel_rfl)) (fun _ _ _ h => h) (Or.inl ⟨by rfl, ?_⟩) hHeld ?_ ?_
       rotate_left
       ·rintro w' ⟨s0, s1, s2⟩
        go_simp
        with_reducible rfl
       rotate_left
       ·simp only [Act.put, la_, lb_, lc_, i64_w, i32_w]
        rfl
       refine one_ (i := 3) (N := some 23) #[true, true, true, true, false, false, false, false] rfl rfl (one_of HT_.out (by kernel_rfl)) (by decide) (fun K hK => ?_)
       refine goes_ Try.func80 (by kernel_rfl) rfl #[.slice A264_0 (rd_L1 l0_0 x16_1).length c264_0] (by rfl) rfl rfl (by (try simp only [List.map_toArray, List.map_cons, List.map_nil]); first | done | rfl | (simp only [List.length_drop, List.length_take]; rfl)) ?_
       with_reducible refine (slices_Clone_int_int.calls _ _ (rd_L1 l0_0 x16_1) t265 _ ?side1 ?side2 A24.out).mono ?_
       (case side1 => repeat (first | exact (Kd.C_below HR264_0.out HB.out) | (with_reducible refine Kd.C_alloc ?_ _) | (with_reducible refine Kd.C_drewN ?_ _) | (with_reducible refine Kd.C_drew ?_)))
       (case side2 => exact HC264_0.out)
       rintro e w27 ⟨v266, rfl, ho0, hb⟩
       refine ⟨_, rfl, ?_⟩
       have n0_ := qm_ (Kd.S_elder' (by (with_reducible repeat (first | apply Kd.S_alloc | apply Kd.S_drewN | apply Kd.S_drew)); exact HO_264000.out) (Kd.R_base ho0) hb)
       have n1_ := qm_ (qb_ (by (with_reducible repeat (first | apply qa_ | apply qn_ | apply qd_)); exact HO_264001.out) hb)
       have n2_ := qm_ (Kd.R_elder' (by (with_reducible repeat (first | apply qa_ | apply qn_ | apply qd_)); exact HO_264002.out) (Kd.R_base ho0) hb)
       have n3_ := qm_ (ql_ (qe_ ho0 (qt_ (by (with_reducible repeat (first | apply qa_ | apply qn_ | apply qd_)); exact HO_264002.out))) (qz_ (by repeat (first | (with_reducible first | exact HB.out | apply qc_ | apply qx_ | apply qf_ | refine qg_ ?_ GE255.out | refine qg_ ?_ GE256.out | refine qg_ ?_ GE263.out) | exact HB.out))))
       have n4_ := qm_ (qs_ (g := gb255) (o := .cells #[.slice (some ad264) l0_0.length c0_0, .slice A0_1 l0_1.length c0_1, .slice A0_2 l0_2.length c0_2] 30 (0, 0)) (by first | with_reducible exact BK255.out | with_reducible exact qu_ BK255.out _ | exact BK255.out | exact qw_ BK255.out _) hb)
       have n5_ := qm_ (qs_ (g := gb256) (o := .cells #[.slice none 0 0, .slice none 0 0, .slice none 0 0] 30 (0, 0)) (by first | with_reducible exact BK256.out | with_reducible exact qu_ BK256.out _ | exact BK256.out | exact qw_ BK256.out _) hb)
       have n6_ := qm_ (qs_ (g := gb263) (o := .cells #[u264000, .slice Ao14 t257.length co14, .slice Ao13 t260.length co13] 30 (0, 0)) (by first | with_reducible exact BK263.out | with_reducible exact qu_ BK263.out _ | exact BK263.out | exact qw_ BK263.out _) hb)
       have n7_ := qm_ (qh_ (by repeat (first | (with_reducible first | exact HB.out | apply qc_ | apply qx_ | apply qf_ | refine qg_ ?_ GE255.out | refine qg_ ?_ GE256.out | refine qg_ ?_ GE263.out) | exact HB.out)) hb)
       clear HO_264000
       clear HO_264001
       clear HO_264002
       clear BK255
       clear BK256
       clear BK263
       clear HB
       have HO_264000 := n0_
       have HO_264001 := n1_
       have HO_264002 := n2_
       have HO267 := n3_
       have BK255 := n4_
       have BK256 := n5_
       have BK263 := n6_
       have HB := n7_
       clear n0_ n1_ n2_ n3_ n4_ n5_ n6_ n7_
       (try clear hb)
       (try clear hb2)
       (try clear hk)
       (try clear hi)
       (try clear ho0)
       obtain ⟨Ao29, co29, eo29⟩ := Kd.R_slice HO267.out
       (first | subst eo29 | (injection eo29 with f1_ f2_ f3_; have f4_ := f1_.symm; have f5_ := f3_.symm; clear f1_ f2_ f3_; subst f4_; subst f5_))
       refine hK.out _ _ ⟨(blk_cell BK263.out 0).trans rfl, (blk_cell BK263.out 1).trans rfl, (blk_cell BK263.out 2).trans rfl⟩ (fun hHeld => ?_)
       clear hK K
       refine norm_ (a' := ?_) ?_ ?_
       rotate_left
       ·show Act.put _ (some 23) _ = _
        simp only [Act.put, la_, lb_, lc_, i64_w, i32_w]
        rfl
       refine one_ (i := 4) (N := some 24) #[true, true, true, true, true, false, false, false] rfl rfl (one_of HT_.out (by kernel_rfl)) (by decide) (fun K hK => ?_)
       refine value_ (w1 := ?_) (v := ?_) (by rfl) rfl ?_ ?_
       rotate_left 2
       ·go_simp
        constructor
        ·rfl
        ·rfl
       refine hK.out _ _ ⟨(blk_cell (qw_ BK263.out _) 0).trans rfl, (blk_cell (qw_ BK263.out _) 1).trans rfl, (blk_cell (qw_ BK263.out _) 2).trans rfl⟩ (fun hHeld => ?_)
       clear hK K
       refine norm_ (a' := ?_) ?_ ?_
       rotate_left
       ·show Act.put _ (some 24) _ = _
        simp only [Act.put, la_, lb_, lc_, i64_w, i32_w]
        rfl
       refine one_ (i := 5) (N := some 25) #[true, true, true, true, true, true, false, false] rfl rfl (one_of HT_.out (by kernel_rfl)) (by decide) (fun K hK => ?_)
       refine Kd.S_append_step (Kd.slice 3 (Kd.int .i64)) (w0 := w) w.heap.size (by rfl) (.tmp 21) (.tmp 24) 22 24 (.slice none 0 0) 24 rfl Try.underlying22 info24 rfl (by decide) (by omega) u264000 x264000_1 t265 [.slice Ao29 t265.length co29] (fun k_ => some k_ ≠ (.slice Ao13 t260.length co13 : Value).ownBlock) (fun k_ => some k_ = (.slice Ao29 t265.length co29 : Value).ownBlock) rfl rfl ?aP (fun k_ hk_ => ((Kd.R_mono (ok' := fun k_ => ((fun k_ => some k_ ≠ (.slice Ao13 t260.length co13 : Value).ownBlock)) k_ ∧ some k_ ≠ (u264000 : Value).ownBlock) (Kd.R_apart' (HO267.out) (Kd.S_typed HO_264000.out) (by decide)) (fun k_ hk => ⟨hk.1.2, hk.2⟩))).1 k_ hk_.symm) ?aF ?aO ?aB ?aS ?aL ?_
       (case aP => exact Kd.M_row (Kd.R_mono (Kd.R_tight rfl (Kd.R_mono (ok' := fun k_ => ((fun k_ => some k_ ≠ (.slice Ao13 t260.length co13 : Value).ownBlock)) k_ ∧ some k_ ≠ (u264000 : Value).ownBlock) (Kd.R_apart' (HO267.out) (Kd.S_typed HO_264000.out) (by decide)) (fun k_ hk => ⟨hk.1.2, hk.2⟩))) (fun _ h_ => h_)))
       (case aB => exact (by repeat (first | (with_reducible first | exact HB.out | apply qc_ | apply qx_ | apply qf_ | refine qg_ ?_ GE255.out | refine qg_ ?_ GE256.out | refine qg_ ?_ GE263.out) | exact HB.out)))
       (case aF => exact (fun k_ hk => Kd.fresh' (qt_ (by (with_reducible repeat (first | apply qa_ | apply qn_ | apply qd_)); exact HO_264002.out)) k_ hk))
       (case aO => exact (by (with_reducible repeat (first | apply Kd.S_alloc | apply Kd.S_drewN | apply Kd.S_drew)); exact Kd.S_mono HO_264000.out (fun k_ hk => ⟨hk.1, fun e_ => hk.2 e_⟩)))
       (case aS => exact (qz_ (by repeat (first | (with_reducible first | exact HB.out | apply qc_ | apply qx_ | apply qf_ | refine qg_ ?_ GE255.out | refine qg_ ?_ GE256.out | refine qg_ ?_ GE263.out) | exact HB.out))))
       (case aL => have := LMc25.out; omega)
       intro v269 w28 ho hb hg hat
       rw [← Ny268.out] at ho
       have n0_ := qm_ (Kd.R_over' (by (with_reducible repeat (first | apply qa_ | apply qn_ | apply qd_)); exact HO_264001.out) (Kd.S_typed (by (with_reducible repeat (first | apply Kd.S_alloc | apply Kd.S_drewN | apply Kd.S_drew)); exact HO_264000.out)) (by decide) hg)
       have n1_ := qm_ (Kd.R_over' (by (with_reducible repeat (first | apply qa_ | apply qn_ | apply qd_)); exact HO_264002.out) (Kd.S_typed (by (with_reducible repeat (first | apply Kd.S_alloc | apply Kd.S_drewN | apply Kd.S_drew)); exact HO_264000.out)) (by decide) hg)
       have n2_ := qm_ (blk_grown (g := gb255) (o := .cells #[.slice (some ad264) l0_0.length c0_0, .slice A0_1 l0_1.length c0_1, .slice A0_2 l0_2.length c0_2] 30 (0, 0)) (by first | with_reducible exact BK255.out | with_reducible exact qu_ BK255.out _ | exact BK255.out | exact qw_ BK255.out _) hg (Kd.S_ne HO_264000.out BK255.out (by decide)))
       have n3_ := qm_ (blk_grown (g := gb256) (o := .cells #[.slice none 0 0, .slice none 0 0, .slice none 0 0] 30 (0, 0)) (by first | with_reducible exact BK256.out | with_reducible exact qu_ BK256.out _ | exact BK256.out | exact qw_ BK256.out _) hg (Kd.S_ne HO_264000.out BK256.out (by decide)))
       have n4_ := qm_ (blk_grown (g := gb263) (o := .cells #[u264000, .slice Ao14 t257.length co14, .slice Ao13 t260.length co13] 30 (0, 0)) (by first | with_reducible exact BK263.out | with_reducible exact qu_ BK263.out _ | exact BK263.out | exact qw_ BK263.out _) hg (Kd.S_ne HO_264000.out BK263.out (by decide)))
       have n5_ := qm_ (hb)
       have n6_ := qm_ (ho)
       clear HO_264001
       clear HO_264002
       clear BK255
       clear BK256
       clear BK263
       clear HB
       clear HO_264000
       clear HO267
       have HO_264001 := n0_
       have HO_264002 := n1_
       have BK255 := n2_
       have BK256 := n3_
       have BK263 := n4_
       have HB := n5_
       have HO270 := n6_
       clear n0_ n1_ n2_ n3_ n4_ n5_ n6_
       clear ho hb hg hat
       obtain ⟨Ao30, co30, eo30⟩ := Kd.S_slice HO270.out
       (first | subst eo30 | (injection eo30 with f1_ f2_ f3_; have f4_ := f1_.symm; have f5_ := f3_.symm; clear f1_ f2_ f3_; subst f4_; subst f5_))
       refine hK.out _ _ ⟨(blk_cell BK263.out 0).trans rfl, (blk_cell BK263.out 1).trans rfl, (blk_cell BK263.out 2).trans rfl⟩ (fun hHeld => ?_)
       clear hK K
       refine norm_ (a' := ?_) ?_ ?_
       rotate_left
       ·show Act.put _ (some 25) _ = _
        simp only [Act.put, la_, lb_, lc_, i64_w, i32_w]
        rfl
       refine pure_ (i := 6) (N := some 26) (v := ?_) (a' := ?_) #[true, true, true, true, true, true, true, false] rfl rfl (any_of HT_.out (by kernel_rfl)) (fun _ _ _ h => h) (Or.inl ⟨by rfl, ?_⟩) ?_ ?_
       rotate_left
       ·intro w'
        go_simp
        with_reducible rfl
       rotate_left
       ·simp only [Act.put, la_, lb_, lc_, i64_w, i32_w]
        rfl
       refine last_ (i := 7) (N := none) #[true, true, true, true, true, true, true, true] rfl rfl (one_of HT_.out (by kernel_rfl)) (by decide) (fun K hK => ?_)
       have hs31 : w28.cell? ⟨gb263, 0, none⟩ = some (u264000) := (blk_cell BK263.out 0).trans rfl
       have hfs31 := blk_frozen BK263.out 0
       have hns31_0 := NB255_263.out
       have hns31_1 := NB256_263.out
       have hms31_0 := NB263_255.out
       have hms31_1 := NB263_256.out
       refine skip_ (w1 := ?_) (by rfl) rfl ?_ ?_
       rotate_left
       ·go_simp
        rfl
       refine hK.out _ _ ?_
       clear hK K
       refine done_ (done_of HT_.out (by kernel_rfl)) ?_
       try go_wp2
       go_roundg k1
       case measure => have := HK1.out; omega
       case rel => exact ⟨(wrap64 (x16_1 + 1)), (y268), (.slice Ao30 y268.length co30), (by first | rfl | (simp; done) | (simp [*]; done)), H', ⟨by have := HK1.out; omega⟩, ⟨by (with_reducible repeat (first | apply Kd.S_alloc | apply Kd.S_drewN | apply Kd.S_drew)); exact Kd.S_mono (Kd.S_far (p := ⟨gb263, 0, none⟩) (Kd.S_types HO270.out BK263.out (by decide)) (fun _ hk => hk.2) (.slice Ao30 y268.length co30)) (fun _ hk => hk.1)⟩, ⟨by (with_reducible repeat (first | apply qa_ | apply qn_ | apply qd_)); exact Kd.R_mono (Kd.R_far (p := ⟨gb263, 0, none⟩) (Kd.R_types HO_264001.out BK263.out (by decide)) (fun _ hk => hk.2) (.slice Ao30 y268.length co30)) (fun _ hk => trivial)⟩, ⟨by (with_reducible repeat (first | apply qa_ | apply qn_ | apply qd_)); exact Kd.R_mono (Kd.R_far (p := ⟨gb263, 0, none⟩) (Kd.R_types HO_264002.out BK263.out (by decide)) (fun _ hk => hk.2) (.slice Ao30 y268.length co30)) (fun _ hk => trivial)⟩, ⟨by (with_reducible repeat (first | refine qu_ ?_ _ | refine qv_ ?_ | refine qw_ ?_ _)); refine blk_far ?_ NB255_263.out _; (with_reducible repeat (first | refine qu_ ?_ _ | refine qv_ ?_ | refine qw_ ?_ _)); exact BK255.out⟩, ⟨by (with_reducible repeat (first | refine qu_ ?_ _ | refine qv_ ?_ | refine qw_ ?_ _)); refine blk_far ?_ NB256_263.out _; (with_reducible repeat (first | refine qu_ ?_ _ | refine qv_ ?_ | refine qw_ ?_ _)); exact BK256.out⟩, ⟨by (with_reducible repeat (first | refine qu_ ?_ _ | refine qv_ ?_ | refine qw_ ?_ _)); refine blk_put (cs := #[u264000, .slice Ao14 t257.length co14, .slice Ao13 t260.length co13]) ?_ 0 _ rfl; (with_reducible repeat (first | refine qu_ ?_ _ | refine qv_ ?_ | refine qw_ ?_ _)); exact BK263.out⟩, ⟨by repeat (first | (with_reducible first | exact HB.out | apply qc_ | apply qx_ | apply qf_ | refine qg_ ?_ GE255.out | refine qg_ ?_ GE256.out | refine qg_ ?_ GE263.out) | exact HB.out)⟩⟩
      ·rw [if_neg c25] at H
       exact absurd H (by simp)
     ·rw [if_neg c23] at H
      exact absurd H (by simp)
    ·rw [if_neg c22] at H
     exact absurd H (by simp)
   ·rw [if_neg c21] at H
    have c21b0 : decide (x16_1 < (l0_0.length : Int)) = false := decide_eq_false c21
    clear c21
    simp only [Option.some.injEq, Prod.mk.injEq] at H
    obtain ⟨rfl, rfl, rfl⟩ := H
    have hnb32 := NB263_255.out
    have hnc32 := NB255_263.out
    have hnb33 := NB263_256.out
    have hnc33 := NB256_263.out
    have hcz34_0 : wr.cell? ⟨gb263, 0, none⟩ = some (u264000) := (blk_cell BK263.out 0).trans rfl
    have hcz34_1 : wr.cell? ⟨gb263, 1, none⟩ = some (.slice Ao14 t257.length co14) := (blk_cell BK263.out 1).trans rfl
    have hcz34_2 : wr.cell? ⟨gb263, 2, none⟩ = some (.slice Ao13 t260.length co13) := (blk_cell BK263.out 2).trans rfl
    have hfz34_0 := blk_frozen BK263.out 0
    have hfz34_1 := blk_frozen BK263.out 1
    have hfz34_2 := blk_frozen BK263.out 2
    obtain ⟨Ao35, co35, eo35⟩ := Kd.S_slice HO_264000.out
    subst eo35
    have hnb36 := NB256_255.out
    have hnc36 := NB255_256.out
    have hcz37_0 : wr.cell? ⟨gb256, 0, none⟩ = some (.slice none 0 0) := (blk_cell BK256.out 0).trans rfl
    have hcz37_1 : wr.cell? ⟨gb256, 1, none⟩ = some (.slice none 0 0) := (blk_cell BK256.out 1).trans rfl
    have hcz37_2 : wr.cell? ⟨gb256, 2, none⟩ = some (.slice none 0 0) := (blk_cell BK256.out 2).trans rfl
    have hfz37_0 := blk_frozen BK256.out 0
    have hfz37_1 := blk_frozen BK256.out 1
    have hfz37_2 := blk_frozen BK256.out 2
    go_wp2
    refine bodyPost_ret (results_cell_row rfl _ _ gb256 30 #[.slice Ao35 x264000_1.length co35, .slice Ao14 t257.length co14, .slice Ao13 t260.length co13] (0, 0) _ rfl (by (with_reducible repeat (first | refine qu_ ?_ _ | refine qv_ ?_ | refine qw_ ?_ _)); refine blk_put (cs := #[.slice Ao35 x264000_1.length co35, .slice Ao14 t257.length co14, .slice none 0 0]) ?_ 2 _ rfl; (with_reducible repeat (first | refine qu_ ?_ _ | refine qv_ ?_ | refine qw_ ?_ _)); refine blk_put (cs := #[.slice Ao35 x264000_1.length co35, .slice none 0 0, .slice none 0 0]) ?_ 1 _ rfl; (with_reducible repeat (first | refine qu_ ?_ _ | refine qv_ ?_ | refine qw_ ?_ _)); refine blk_put (cs := #[.slice none 0 0, .slice none 0 0, .slice none 0 0]) ?_ 0 _ rfl; (with_reducible repeat (first | refine qu_ ?_ _ | refine qv_ ?_ | refine qw_ ?_ _)); exact BK256.out) Try.underlying30 rfl (by kernel_rfl)) rfl ?_
    exact ⟨_, _, _, by first | rfl | (simp [errW_none, errW_some] <;> rfl) | (simp [*, errW_none, errW_some] <;> rfl), by (with_reducible repeat (first | apply Kd.S_alloc | apply Kd.S_drewN | apply Kd.S_drew)); exact Kd.S_mono (Kd.S_far (p := ⟨gb256, 2, none⟩) (Kd.S_far (p := ⟨gb256, 1, none⟩) (Kd.S_far (p := ⟨gb256, 0, none⟩) (Kd.S_types HO_264000.out BK256.out (by decide)) (fun _ hk => hk.2) (.slice Ao35 x264000_1.length co35)) (fun _ hk => hk.2) (.slice Ao14 t257.length co14)) (fun _ hk => hk.2) (.slice Ao13 t260.length co13)) (fun _ hk => hk.1), by (with_reducible repeat (first | apply qa_ | apply qn_ | apply qd_)); exact Kd.R_mono (Kd.R_far (p := ⟨gb256, 2, none⟩) (Kd.R_far (p := ⟨gb256, 1, none⟩) (Kd.R_far (p := ⟨gb256, 0, none⟩) (Kd.R_types HO_264001.out BK256.out (by decide)) (fun _ hk => hk.2) (.slice Ao35 x264000_1.length co35)) (fun _ hk => hk.2) (.slice Ao14 t257.length co14)) (fun _ hk => hk.2) (.slice Ao13 t260.length co13)) (fun _ hk => trivial), by (with_reducible repeat (first | apply qa_ | apply qn_ | apply qd_)); exact Kd.R_mono (Kd.R_far (p := ⟨gb256, 2, none⟩) (Kd.R_far (p := ⟨gb256, 1, none⟩) (Kd.R_far (p := ⟨gb256, 0, none⟩) (Kd.R_types HO_264002.out BK256.out (by decide)) (fun _ hk => hk.2) (.slice Ao35 x264000_1.length co35)) (fun _ hk => hk.2) (.slice Ao14 t257.length co14)) (fun _ hk => hk.2) (.slice Ao13 t260.length co13)) (fun _ hk => trivial), by repeat (first | (with_reducible first | exact HB.out | apply qc_ | apply qx_ | apply qf_ | refine qg_ ?_ GE255.out | refine qg_ ?_ GE256.out | refine qg_ ?_ GE263.out) | exact HB.out)⟩

/-! ### impl_Heap_hasRoot: function 77 -/
def impl_Heap_hasRoot.f (l0_0 : List (List Int)) (l0_1 : List Bool) (l0_2 : List Int) (a1 : Int) : Option (Bool) := (impl_within.f a1 0 (wrap64 ((l0_2.length : Int) - 1))).bind fun t272 => (some t272)
set_option maxHeartbeats 8000000 in
set_option maxRecDepth 100000 in
theorem impl_Heap_hasRoot.calls (A0_0 : Option Addr) (c0_0 : Nat) (l0_0 : List (List Int)) (A0_1 : Option Addr) (c0_1 : Nat) (l0_1 : List Bool) (A0_2 : Option Addr) (c0_2 : Nat) (l0_2 : List Int) (a1 : Int) (r : Bool) (w : World) (hr0_0 : Kd.C (Kd.slice 3 (Kd.int .i64)) w A0_0 l0_0.length l0_0) (hc0_0 : l0_0.length ≤ c0_0) (hr0_1 : Kd.C Kd.bool w A0_1 l0_1.length l0_1) (hc0_1 : l0_1.length ≤ c0_1) (hr0_2 : Kd.C (Kd.int .i64) w A0_2 l0_2.length l0_2) (hc0_2 : l0_2.length ≤ c0_2) (h : impl_Heap_hasRoot.f l0_0 l0_1 l0_2 a1 = some r) :
  Calls Try.prog 77 #[.agg #[.slice A0_0 l0_0.length c0_0, .slice A0_1 l0_1.length c0_1, .slice A0_2 l0_2.length c0_2], .int .i64 a1] w fun e w' => e = .returned (.bool r) ∧ Below w.heap.size w w' := by
 have hu30 := Try.underlying30
 have HR0_0 := qm_ hr0_0
 have HC0_0 := qm_ hc0_0
 clear hr0_0 hc0_0
 have HR0_1 := qm_ hr0_1
 have HC0_1 := qm_ hc0_1
 clear hr0_1 hc0_1
 have HR0_2 := qm_ hr0_2
 have HC0_2 := qm_ hc0_2
 clear hr0_2 hc0_2
 have HB := qm_ (Below.refl w.heap.size w)
 have H : ((impl_within.f a1 0 (wrap64 ((l0_2.length : Int) - 1))).bind fun t272 => (some t272)) = some r := h
 clear h
 replace H := Option.bind_eq_some_iff.mp H
 obtain ⟨t272, A30, H⟩ := H
 replace H : (some t272) = some r := H
 have A3 := qm_ A30
 clear A30
 obtain rfl := Option.some.inj H
 go_enter Try.func77, Try.ntmps77
 go_wp2_with (first | ((with_reducible refine gate_dst (N := 2) rfl ?_); refine box_event ?hg (N := 2) ?hd (cs := #[.slice A0_0 l0_0.length c0_0, .slice A0_1 l0_1.length c0_1, .slice A0_2 l0_2.length c0_2]) (t := 30) ?hr ?_; (case hd => rfl); (case hg => rfl); (case hr => first | (go_simp; done) | (go_simp; rfl)); intro gb271 hg w4 hbox hb; have n0_ := qm_ (qh_ (by repeat (first | (with_reducible first | exact HB.out | apply qc_ | apply qx_ | apply qf_) | exact HB.out)) hb); have n1_ := qm_ (hbox); have n2_ := qm_ ((by rw [hg]; exact (qz_ (by repeat (first | (with_reducible first | exact HB.out | apply qc_ | apply qx_ | apply qf_) | exact HB.out))) : w.heap.size ≤ gb271)); have n3_ := qm_ ((by rw [hg]; exact (qz_ (by repeat (first | (with_reducible first | exact HB.out | apply qc_ | apply qx_ | apply qf_) | exact HB.out))) : w.heap.size ≤ gb271)); clear HB; have HB := n0_; have BK271 := n1_; have GW271 := n2_; have GE271 := n3_; clear n0_ n1_ n2_ n3_; clear hb hbox hg; have hcz5_0 : w4.cell? ⟨gb271, 0, none⟩ = some (.slice A0_0 l0_0.length c0_0) := (blk_cell BK271.out 0).trans rfl; have hcz5_1 : w4.cell? ⟨gb271, 1, none⟩ = some (.slice A0_1 l0_1.length c0_1) := (blk_cell BK271.out 1).trans rfl; have hcz5_2 : w4.cell? ⟨gb271, 2, none⟩ = some (.slice A0_2 l0_2.length c0_2) := (blk_cell BK271.out 2).trans rfl; have hfz5_0 := blk_frozen BK271.out 0; have hfz5_1 := blk_frozen BK271.out 1; have hfz5_2 := blk_frozen BK271.out 2) | ((with_reducible refine gate_callee (f := 87) rfl ?_); refine goesL_ (some 10) rfl rfl Try.func87 (by kernel_rfl) rfl #[.int .i64 a1, .int .i64 0, .int .i64 (wrap64 ((l0_2.length : Int) - 1))] rfl (by (try simp only [List.map_toArray, List.map_cons, List.map_nil]); first | done | rfl | (simp only [List.length_drop, List.length_take]; rfl)) ?_; (with_reducible refine (impl_within.calls a1 0 (wrap64 ((l0_2.length : Int) - 1)) t272 _ A3.out).mono ?_); rintro e w' ⟨rfl, ⟨nd, rfl⟩⟩; refine ⟨_, rfl, ?_⟩))
 go_ret
 exact ⟨by first | rfl | (simp [errW_none, errW_some] <;> rfl) | (simp [*, errW_none, errW_some] <;> rfl), by repeat (first | (with_reducible first | exact HB.out | apply qc_ | apply qx_ | apply qf_ | refine qg_ ?_ GE271.out) | exact HB.out)⟩

end Go.Proofs.Ytkfldlniknifpaa.QFnExactSetRoot
