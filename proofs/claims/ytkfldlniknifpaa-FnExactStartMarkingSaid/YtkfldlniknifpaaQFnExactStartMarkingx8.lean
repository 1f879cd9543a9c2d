-- Written by a program of the session, a changed copy of the kit's print: not the kit's own print; Lean checks it.
import Derived.Test.YtkfldlniknifpaaQFnExactStartMarkingx0
import Derived.Test.YtkfldlniknifpaaQFnExactStartMarkingx7
namespace Go.Proofs.Ytkfldlniknifpaa.QFnExactStartMarking
open Go.RowKit Go.Proofs.YtkfldlniknifpaaW.PrintWords Go.Proofs.YtkfldlniknifpaaW.PrintLast Go.Proofs.YtkfldlniknifpaaW.PrintMore
attribute [local go_sem] max2_int min2_int max_two min_two max_three min_three max_four min_four   -- for this text's walks alone
set_option linter.unusedVariables false
set_option linter.unusedSimpArgs false

open List renaming setIfInBounds_toArray → la_, set_cons_zero → lb_, set_cons_succ → lc_
open Go.Proofs.YtkfldlniknifpaaW.PrintWords.Kd renaming R_alloc → qa_, R_drewN → qn_, R_drew → qd_, R_lower → ql_, R_lt → qt_, R_new' → qe_, R_below → qb_
open Go.Proofs.YtkfldlniknifpaaW.PrintWords renaming blk_drewN → qu_, blk_drew → qv_, blk_alloc → qw_, blk_below → qs_, below_size → qz_, below_alloc → qc_, pw_below_drewN → qx_, below_drew1 → qf_, below_set → qg_, below_step → qh_
open Go.Proofs.YtkfldlniknifpaaW.PrintWords.Aside0 renaming mk → qm_
/-! ### impl_cloneHeap: function 74 -/
def impl_cloneHeap.l0 : Nat → List (List Int) → Int → Int → List (List Int) → List Bool → List Int → Option ((List (List Int)) × List Bool × List Int)
 | 0, _, _, _, _, _, _ => none
 | k + 1, x14, x15, x16, x260000, x260001, x260002 => if x16 < x15 then (if 0 ≤ x16 then (if x16 < (x14.length : Int) then ((slices_Clone_int_int.f (rd_L1 x14 x16)).bind fun t261 => (if x260000.length < 5864062014805 then (impl_cloneHeap.l0 k x14 x15 (wrap64 (x16 + 1)) (x260000 ++ [t261]) x260001 x260002) else (none))) else (none)) else (none)) else (some (x260000, x260001, x260002))
def impl_cloneHeap.f (k : Nat) (l0_0 : List (List Int)) (l0_1 : List Bool) (l0_2 : List Int) : Option ((List (List Int)) × List Bool × List Int) := (slices_Clone_bool_bool.f l0_1).bind fun t253 => ((slices_Clone_int_int.f l0_2).bind fun t256 => (impl_cloneHeap.l0 k l0_0 (l0_0.length : Int) 0 ([] : List (List Int)) t253 t256))
theorem impl_cloneHeap.mono_l : ∀ k, (∀ y0 y1 y2 y3 y4 y5, LeO (impl_cloneHeap.l0 k y0 y1 y2 y3 y4 y5) (impl_cloneHeap.l0 (k + 1) y0 y1 y2 y3 y4 y5))
 | 0 => fun _ _ _ _ _ _ r h => by simp [impl_cloneHeap.l0] at h
 | k + 1 => by
  have ih0 := impl_cloneHeap.mono_l k
  ·intro y0 y1 y2 y3 y4 y5
   unfold impl_cloneHeap.l0
   repeat' first
   | (with_reducible exact ih0 _ _ _ _ _ _)
   | (with_reducible exact LeO.refl _)
   | (with_reducible exact LeO.none _)
   | (with_reducible refine LeO.ite ?_ ?_)
   | (with_reducible refine LeO.bind ?_ (fun _ => ?_))
   | exact ih0 _ _ _ _ _ _
   | exact LeO.none _
   | refine LeO.ite ?_ ?_
   | refine LeO.bind ?_ (fun _ => ?_)
theorem impl_cloneHeap.mono : ∀ a0 a1 a2 k, LeO (impl_cloneHeap.f k a0 a1 a2) (impl_cloneHeap.f (k + 1) a0 a1 a2) := by
 intro a0 a1 a2 k
 have ih0 := impl_cloneHeap.mono_l k
 unfold impl_cloneHeap.f
 repeat' first
   | (with_reducible exact ih0 _ _ _ _ _ _)
   | (with_reducible exact LeO.refl _)
   | (with_reducible exact LeO.none _)
   | (with_reducible refine LeO.ite ?_ ?_)
   | (with_reducible refine LeO.bind ?_ (fun _ => ?_))
   | exact ih0 _ _ _ _ _ _
   | exact LeO.none _
   | refine LeO.ite ?_ ?_
   | refine LeO.bind ?_ (fun _ => ?_)
def impl_cloneHeap.T1 : Bool × List (List Nat × List Nat) := (true, [([], []), ([0], [0]), ([1], [1]), ([], []), ([3], [3]), ([4, 2], [4]), ([2, 5], [2, 5]), ([], []), ([7, 6, 5, 0, 1, 2, 3, 4, 5, 6, 7], [6, 7])])
def impl_cloneHeap.B1 : List Nat := [0, 1, 3, 0, 8, 31, 63, 0, 255]
theorem impl_cloneHeap.tab1 : rtab .any (opsOf Try.f74 1) = impl_cloneHeap.T1 := by kernel_rfl
theorem impl_cloneHeap.bits1 : waitsOk impl_cloneHeap.T1.2 impl_cloneHeap.B1 = true := by kernel_rfl
def impl_cloneHeap.T5 : Bool × List (List Nat × List Nat) := (true, [([], []), ([0], [0]), ([], []), ([2], [2]), ([3], [3]), ([1, 4, 3], [1, 4]), ([0, 1, 2, 3, 4, 5], []), ([6, 5, 5, 0, 1, 2, 3, 4, 5], [5, 6])])
def impl_cloneHeap.B5 : List Nat := [0, 1, 0, 4, 12, 31, 63, 127]
theorem impl_cloneHeap.tab5 : rtab .any (opsOf Try.f74 5) = impl_cloneHeap.T5 := by kernel_rfl
theorem impl_cloneHeap.bits5 : waitsOk impl_cloneHeap.T5.2 impl_cloneHeap.B5 = true := by kernel_rfl
set_option maxHeartbeats 8000000 in
set_option maxRecDepth 100000 in
theorem impl_cloneHeap.calls (k : Nat) (A0_0 : Option Addr) (c0_0 : Nat) (l0_0 : List (List Int)) (A0_1 : Option Addr) (c0_1 : Nat) (l0_1 : List Bool) (A0_2 : Option Addr) (c0_2 : Nat) (l0_2 : List Int) (r1 : List (List Int)) (r2 : List Bool) (r3 : List Int) (w : World) (hr0_0 : Kd.C (Kd.slice 3 (Kd.int .i64)) w A0_0 l0_0.length l0_0) (hc0_0 : l0_0.length ≤ c0_0) (hr0_1 : Kd.C Kd.bool w A0_1 l0_1.length l0_1) (hc0_1 : l0_1.length ≤ c0_1) (hr0_2 : Kd.C (Kd.int .i64) w A0_2 l0_2.length l0_2) (hc0_2 : l0_2.length ≤ c0_2) (h : impl_cloneHeap.f k l0_0 l0_1 l0_2 = some (r1, r2, r3)) :
  Calls Try.prog 74 #[.agg #[.slice A0_0 l0_0.length c0_0, .slice A0_1 l0_1.length c0_1, .slice A0_2 l0_2.length c0_2]] w fun e w' => ∃ v0_ v1_ v2_ : Value, e = .returned (.agg #[v0_, v1_, v2_]) ∧ Kd.S (Kd.slice 3 (Kd.int .i64)) 24 w' w.heap.size (fun k_ => some k_ ≠ (v2_ : Value).ownBlock) v0_ r1 ∧ Kd.R Kd.bool 4 w' w.heap.size (fun _ => True) v1_ r2 ∧ Kd.R (Kd.int .i64) 3 w' w.heap.size (fun _ => True) v2_ r3 ∧ Below w.heap.size w w' := by
 have hu30 := Try.underlying30
 have HR0_0 := qm_ hr0_0
 have HC0_0 := qm_ hc0_0
 clear hr0_0 hc0_0
 have HR0_1 := qm_ hr0_1
 have HC0_1 := qm_ hc0_1
 clear hr0_1 hc0_1
 have HR0_2 := qm_ hr0_2
 have HC0_2 := qm_ hc0_2
 clear hr0_2 hc0_2
 have HB := qm_ (Below.refl w.heap.size w)
 have H : ((slices_Clone_bool_bool.f l0_1).bind fun t253 => ((slices_Clone_int_int.f l0_2).bind fun t256 => (impl_cloneHeap.l0 k l0_0 (l0_0.length : Int) 0 ([] : List (List Int)) t253 t256))) = some (r1, r2, r3) := h
 clear h
 replace H := Option.bind_eq_some_iff.mp H
 obtain ⟨t253, A20, H⟩ := H
 replace H : ((slices_Clone_int_int.f l0_2).bind fun t256 => (impl_cloneHeap.l0 k l0_0 (l0_0.length : Int) 0 ([] : List (List Int)) t253 t256)) = some (r1, r2, r3) := H
 have A2 := qm_ A20
 clear A20
 replace H := Option.bind_eq_some_iff.mp H
 obtain ⟨t256, A30, H⟩ := H
 replace H : (impl_cloneHeap.l0 k l0_0 (l0_0.length : Int) 0 ([] : List (List Int)) t253 t256) = some (r1, r2, r3) := H
 have A3 := qm_ A30
 clear A30
 have H' := qm_ H
 clear H
 go_enter Try.func74, Try.ntmps74
 try go_wp2_with (first | ((with_reducible refine gate_dst (N := 1) rfl ?_); refine box_event ?hg (N := 1) ?hd (cs := #[.slice A0_0 l0_0.length c0_0, .slice A0_1 l0_1.length c0_1, .slice A0_2 l0_2.length c0_2]) (t := 30) ?hr ?_; (case hd => rfl); (case hg => rfl); (case hr => first | (go_simp; done) | (go_simp; rfl)); intro gb251 hg w4 hbox hb; have n0_ := qm_ (qh_ (by repeat (first | (with_reducible first | exact HB.out | apply qc_ | apply qx_ | apply qf_) | exact HB.out)) hb); have n1_ := qm_ (hbox); have n2_ := qm_ ((by rw [hg]; exact (qz_ (by repeat (first | (with_reducible first | exact HB.out | apply qc_ | apply qx_ | apply qf_) | exact HB.out))) : w.heap.size ≤ gb251)); have n3_ := qm_ ((by rw [hg]; exact (qz_ (by repeat (first | (with_reducible first | exact HB.out | apply qc_ | apply qx_ | apply qf_) | exact HB.out))) : w.heap.size ≤ gb251)); clear HB; have HB := n0_; have BK251 := n1_; have GW251 := n2_; have GE251 := n3_; clear n0_ n1_ n2_ n3_; clear hb hbox hg) | ((with_reducible refine gate_dst (N := 2) rfl ?_); refine box_event ?hg (N := 2) ?hd (cs := #[.slice none 0 0, .slice none 0 0, .slice none 0 0]) (t := 30) ?hr ?_; (case hd => rfl); (case hg => rfl); (case hr => first | (go_simp; done) | (go_simp; rfl)); intro gb252 hg w5 hbox hb; have n0_ := qm_ (qs_ (g := gb251) (o := .cells #[.slice A0_0 l0_0.length c0_0, .slice A0_1 l0_1.length c0_1, .slice A0_2 l0_2.length c0_2] 30 (0, 0)) (by first | with_reducible exact BK251.out | with_reducible exact qu_ BK251.out _ | exact BK251.out | exact qw_ BK251.out _) hb); have n1_ := qm_ (qh_ (by repeat (first | (with_reducible first | exact HB.out | apply qc_ | apply qx_ | apply qf_ | refine qg_ ?_ GE251.out) | exact HB.out)) hb); have n2_ := qm_ (hbox); have n3_ := qm_ ((by rw [hg]; exact (qz_ (by repeat (first | (with_reducible first | exact HB.out | apply qc_ | apply qx_ | apply qf_ | refine qg_ ?_ GE251.out) | exact HB.out))) : w.heap.size ≤ gb252)); have n4_ := qm_ ((by rw [hg]; exact (qz_ (by repeat (first | (with_reducible first | exact HB.out | apply qc_ | apply qx_ | apply qf_ | refine qg_ ?_ GE251.out) | exact HB.out))) : w.heap.size ≤ gb252)); have n5_ := qm_ ((by rw [hg]; exact Nat.ne_of_lt (blk_lt (g := gb251) (o := .cells #[.slice A0_0 l0_0.length c0_0, .slice A0_1 l0_1.length c0_1, .slice A0_2 l0_2.length c0_2] 30 (0, 0)) (by first | with_reducible exact BK251.out | with_reducible exact qu_ BK251.out _ | exact BK251.out | exact qw_ BK251.out _)) : gb251 ≠ gb252)); have n6_ := qm_ ((by rw [hg]; exact Nat.ne_of_gt (blk_lt (g := gb251) (o := .cells #[.slice A0_0 l0_0.length c0_0, .slice A0_1 l0_1.length c0_1, .slice A0_2 l0_2.length c0_2] 30 (0, 0)) (by first | with_reducible exact BK251.out | with_reducible exact qu_ BK251.out _ | exact BK251.out | exact qw_ BK251.out _)) : gb252 ≠ gb251)); clear BK251; clear HB; have BK251 := n0_; have HB := n1_; have BK252 := n2_; have GW252 := n3_; have GE252 := n4_; have NB251_252 := n5_; have NB252_251 := n6_; clear n0_ n1_ n2_ n3_ n4_ n5_ n6_; clear hb hbox hg))
 have n0_ := qm_ (qv_ BK251.out)
 have n1_ := qm_ (qv_ BK252.out)
 have n2_ := qm_ (qf_ HB.out)
 clear BK251
 clear BK252
 clear HB
 have BK251 := n0_
 have BK252 := n1_
 have HB := n2_
 clear n0_ n1_ n2_
 refine start_ (n := 9) (S := fun w' => w'.cell? ⟨gb251, 0, none⟩ = some (.slice A0_0 l0_0.length c0_0) ∧ w'.cell? ⟨gb251, 1, none⟩ = some (.slice A0_1 l0_1.length c0_1) ∧ w'.cell? ⟨gb251, 2, none⟩ = some (.slice A0_2 l0_2.length c0_2)) (ds := []) #[false, false, false, false, false, false, false, false, false] (by kernel_rfl) rfl rfl ⟨(blk_cell BK251.out 0).trans rfl, (blk_cell BK251.out 1).trans rfl, (blk_cell BK251.out 2).trans rfl⟩ (fun hHeld => ?_); refine with_tabW impl_cloneHeap.tab1 impl_cloneHeap.bits1 (fun HT_ HW_ => ?_)
 generalize w5.drew = w6 at BK251 BK252 HB hHeld ⊢
 refine pure_ (i := 0) (N := some 6) (v := ?_) (a' := ?_) #[true, false, false, false, false, false, false, false, false] rfl rfl (any_of HT_.out (by kernel_rfl)) (fun _ _ _ h => h) (Or.inl ⟨by rfl, ?_⟩) ?_ ?_
 rotate_left
 ·intro w'
  go_simp
  with_reducible rfl
 rotate_left
 ·simp only [Act.put, la_, lb_, lc_, i64_w, i32_w]
  rfl
 refine pure_ (i := 3) (N := some 9) (v := ?_) (a' := ?_) #[true, false, false, true, false, false, false, false, false] rfl rfl (any_of HT_.out (by kernel_rfl)) (fun _ _ _ h => h) (Or.inl ⟨by rfl, ?_⟩) ?_ ?_
 rotate_left
 ·intro w'
  go_simp
  with_reducible rfl
 rotate_left
 ·simp only [Act.put, la_, lb_, lc_, i64_w, i32_w]
  rfl
 refine take_ (i := 1) (N := some 7) (v := ?_) (a' := ?_) #[true, true, false, true, false, false, false, false, false] rfl rfl (take_ofW HT_.out HW_.out (by kernel_rfl)) (fun _ _ _ h => h) (Or.inl ⟨by rfl, ?_⟩) hHeld ?_ ?_
 rotate_left
 ·rintro w' ⟨s0, s1, s2⟩
  go_simp
  with_reducible rfl
 rotate_left
 ·simp only [Act.put, la_, lb_, lc_, i64_w, i32_w]
  rfl
 refine take_ (i := 4) (N := some 10) (v := ?_) (a' := ?_) #[true, true, false, true, true, false, false, false, false] rfl rfl (take_ofW HT_.out HW_.out (by kernel_rfl)) (fun _ _ _ h => h) (Or.inl ⟨by rfl, ?_⟩) hHeld ?_ ?_
 rotate_left
 ·rintro w' ⟨s0, s1, s2⟩
  go_simp
  with_reducible rfl
 rotate_left
 ·simp only [Act.put, la_, lb_, lc_, i64_w, i32_w]
  rfl
 refine join_ (σ := Value × Value × Nat) 1 #[true, true, true, true, true, true, true, true, false] (fun s_ => [(8, s_.1), (11, s_.2.1), (3, .pointer (some ⟨s_.2.2, 0, none⟩)), (12, .agg #[.slice none 0 0, s_.1, s_.2.1])]) (fun s_ w' => (w'.cell? ⟨gb251, 0, none⟩ = some (.slice A0_0 l0_0.length c0_0) ∧ w'.cell? ⟨gb251, 1, none⟩ = some (.slice A0_1 l0_1.length c0_1) ∧ w'.cell? ⟨gb251, 2, none⟩ = some (.slice A0_2 l0_2.length c0_2)) ∧ (Kd.R Kd.bool 4 w' w.heap.size (fun _ => True) s_.1 t253) ∧ (Kd.R (Kd.int .i64) 3 w' w.heap.size (fun _ => True) s_.2.1 t256) ∧ (w'.heap[gb251]? = some (.cells #[.slice A0_0 l0_0.length c0_0, .slice A0_1 l0_1.length c0_1, .slice A0_2 l0_2.length c0_2] 30 (0, 0))) ∧ (w'.heap[gb252]? = some (.cells #[.slice none 0 0, .slice none 0 0, .slice none 0 0] 30 (0, 0))) ∧ (w'.heap[s_.2.2]? = some (.cells #[.slice none 0 0, .slice none 0 0, .slice none 0 0] 30 (0, 0))) ∧ (w.heap.size ≤ s_.2.2) ∧ (w.heap.size ≤ s_.2.2) ∧ (gb251 ≠ s_.2.2) ∧ (s_.2.2 ≠ gb251) ∧ (gb252 ≠ s_.2.2) ∧ (s_.2.2 ≠ gb252) ∧ (Below w.heap.size w w')) ?_ ?_
 rotate_left
 ·intro hCont
  refine two_ (i := 2) (j := 7) (Ni := some 8) (Nj := some 3) #[true, true, true, true, true, false, false, false, false] #[true, true, false, true, true, false, false, true, false] rfl rfl rfl rfl (two_of HT_.out (by kernel_rfl)) (by decide) (by decide) (fun K hK => ?_) (fun K hK => ?_)
  ·skip
   refine goes_ Try.func107 (by kernel_rfl) rfl #[.slice A0_1 l0_1.length c0_1] (by rfl) rfl rfl (by (try simp only [List.map_toArray, List.map_cons, List.map_nil]); first | done | rfl | (simp only [List.length_drop, List.length_take]; rfl)) ?_
   with_reducible refine (slices_Clone_bool_bool.calls _ _ l0_1 t253 _ ?side1 ?side2 A2.out).mono ?_
   (case side1 => repeat (first | exact (Kd.C_below HR0_1.out HB.out) | (with_reducible refine Kd.C_alloc ?_ _) | (with_reducible refine Kd.C_drewN ?_ _) | (with_reducible refine Kd.C_drew ?_)))
   (case side2 => exact HC0_1.out)
   rintro e w7 ⟨v254, rfl, ho0, hb⟩
   refine ⟨_, rfl, ?_⟩
   have n0_ := qm_ (ql_ ho0 (qz_ (by repeat (first | (with_reducible first | exact HB.out | apply qc_ | apply qx_ | apply qf_ | refine qg_ ?_ GE251.out | refine qg_ ?_ GE252.out) | exact HB.out))))
   have n1_ := qm_ (qs_ (g := gb251) (o := .cells #[.slice A0_0 l0_0.length c0_0, .slice A0_1 l0_1.length c0_1, .slice A0_2 l0_2.length c0_2] 30 (0, 0)) (by first | with_reducible exact BK251.out | with_reducible exact qu_ BK251.out _ | exact BK251.out | exact qw_ BK251.out _) hb)
   have n2_ := qm_ (qs_ (g := gb252) (o := .cells #[.slice none 0 0, .slice none 0 0, .slice none 0 0] 30 (0, 0)) (by first | with_reducible exact BK252.out | with_reducible exact qu_ BK252.out _ | exact BK252.out | exact qw_ BK252.out _) hb)
   have n3_ := qm_ (qh_ (by repeat (first | (with_reducible first | exact HB.out | apply qc_ | apply qx_ | apply qf_ | refine qg_ ?_ GE251.out | refine qg_ ?_ GE252.out) | exact HB.out)) hb)
   clear BK251
   clear BK252
   clear HB
   have HO255 := n0_
   have BK251 := n1_
   have BK252 := n2_
   have HB := n3_
   clear n0_ n1_ n2_ n3_
   (try clear hb)
   (try clear hb2)
   (try clear hk)
   (try clear hi)
   (try clear ho0)
   refine hK.out _ _ ⟨(blk_cell BK251.out 0).trans rfl, (blk_cell BK251.out 1).trans rfl, (blk_cell BK251.out 2).trans rfl⟩ (fun hHeld => ?_)
   clear hK K
   refine norm_ (a' := ?_) ?_ ?_
   rotate_left
   ·show Act.put _ (some 8) _ = _
    simp only [Act.put, la_, lb_, lc_, i64_w, i32_w]
    rfl
   refine two_ (i := 5) (j := 7) (Ni := some 11) (Nj := some 3) #[true, true, true, true, true, true, false, false, false] #[true, true, true, true, true, false, false, true, false] rfl rfl rfl rfl (two_of HT_.out (by kernel_rfl)) (by decide) (by decide) (fun K hK => ?_) (fun K hK => ?_)
   ·skip
    refine goes_ Try.func80 (by kernel_rfl) rfl #[.slice A0_2 l0_2.length c0_2] (by rfl) rfl rfl (by (try simp only [List.map_toArray, List.map_cons, List.map_nil]); first | done | rfl | (simp only [List.length_drop, List.length_take]; rfl)) ?_
    with_reducible refine (slices_Clone_int_int.calls _ _ l0_2 t256 _ ?side1 ?side2 A3.out).mono ?_
    (case side1 => repeat (first | exact (Kd.C_below HR0_2.out HB.out) | (with_reducible refine Kd.C_alloc ?_ _) | (with_reducible refine Kd.C_drewN ?_ _) | (with_reducible refine Kd.C_drew ?_)))
    (case side2 => exact HC0_2.out)
    rintro e w8 ⟨v257, rfl, ho0, hb⟩
    refine ⟨_, rfl, ?_⟩
    have n0_ := qm_ (qb_ (by (with_reducible repeat (first | apply qa_ | apply qn_ | apply qd_)); exact HO255.out) hb)
    have n1_ := qm_ (ql_ ho0 (qz_ (by repeat (first | (with_reducible first | exact HB.out | apply qc_ | apply qx_ | apply qf_ | refine qg_ ?_ GE251.out | refine qg_ ?_ GE252.out) | exact HB.out))))
    have n2_ := qm_ (qs_ (g := gb251) (o := .cells #[.slice A0_0 l0_0.length c0_0, .slice A0_1 l0_1.length c0_1, .slice A0_2 l0_2.length c0_2] 30 (0, 0)) (by first | with_reducible exact BK251.out | with_reducible exact qu_ BK251.out _ | exact BK251.out | exact qw_ BK251.out _) hb)
    have n3_ := qm_ (qs_ (g := gb252) (o := .cells #[.slice none 0 0, .slice none 0 0, .slice none 0 0] 30 (0, 0)) (by first | with_reducible exact BK252.out | with_reducible exact qu_ BK252.out _ | exact BK252.out | exact qw_ BK252.out _) hb)
    have n4_ := qm_ (qh_ (by repeat (first | (with_reducible first | exact HB.out | apply qc_ | apply qx_ | apply qf_ | refine qg_ ?_ GE251.out | refine qg_ ?_ GE252.out) | exact HB.out)) hb)
    clear HO255
    clear BK251
    clear BK252
    clear HB
    have HO255 := n0_
    have HO258 := n1_
    have BK251 := n2_
    have BK252 := n3_
    have HB := n4_
    clear n0_ n1_ n2_ n3_ n4_
    (try clear hb)
    (try clear hb2)
    (try clear hk)
    (try clear hi)
    (try clear ho0)
    obtain ⟨Ao9, co9, eo9⟩ := Kd.R_slice HO258.out
    (first | subst eo9 | (injection eo9 with f1_ f2_ f3_; have f4_ := f1_.symm; have f5_ := f3_.symm; clear f1_ f2_ f3_; subst f4_; subst f5_))
    obtain ⟨Ao10, co10, eo10⟩ := Kd.R_slice HO255.out
    (first | subst eo10 | (injection eo10 with f1_ f2_ f3_; have f4_ := f1_.symm; have f5_ := f3_.symm; clear f1_ f2_ f3_; subst f4_; subst f5_))
    refine hK.out _ _ ⟨(blk_cell BK251.out 0).trans rfl, (blk_cell BK251.out 1).trans rfl, (blk_cell BK251.out 2).trans rfl⟩ (fun hHeld => ?_)
    clear hK K
    refine norm_ (a' := ?_) ?_ ?_
    rotate_left
    ·show Act.put _ (some 11) _ = _
     simp only [Act.put, la_, lb_, lc_, i64_w, i32_w]
     rfl
    refine pure_ (i := 6) (N := some 12) (v := ?_) (a' := ?_) #[true, true, true, true, true, true, true, false, false] rfl rfl (any_of HT_.out (by kernel_rfl)) (fun _ _ _ h => h) (Or.inl ⟨by rfl, ?_⟩) ?_ ?_
    rotate_left
    ·intro w'
     go_simp
     with_reducible rfl
    rotate_left
    ·simp only [Act.put, la_, lb_, lc_, i64_w, i32_w]
     rfl
    refine one_ (i := 7) (N := some 3) #[true, true, true, true, true, true, true, true, false] rfl rfl (one_of HT_.out (by kernel_rfl)) (by decide) (fun K hK => ?_)
    refine box_step ?hg (N := 3) ?hd (cs := #[.slice none 0 0, .slice none 0 0, .slice none 0 0]) (t := 30) ?hr ?_; (case hd => rfl); (case hg => rfl); (case hr => first | (go_simp; done) | (go_simp; rfl))
    intro gb259 hg w11 hbox hb
    have n0_ := qm_ (qb_ (by (with_reducible repeat (first | apply qa_ | apply qn_ | apply qd_)); exact HO255.out) hb)
    have n1_ := qm_ (qb_ (by (with_reducible repeat (first | apply qa_ | apply qn_ | apply qd_)); exact HO258.out) hb)
    have n2_ := qm_ (qs_ (g := gb251) (o := .cells #[.slice A0_0 l0_0.length c0_0, .slice A0_1 l0_1.length c0_1, .slice A0_2 l0_2.length c0_2] 30 (0, 0)) (by first | with_reducible exact BK251.out | with_reducible exact qu_ BK251.out _ | exact BK251.out | exact qw_ BK251.out _) hb)
    have n3_ := qm_ (qs_ (g := gb252) (o := .cells #[.slice none 0 0, .slice none 0 0, .slice none 0 0] 30 (0, 0)) (by first | with_reducible exact BK252.out | with_reducible exact qu_ BK252.out _ | exact BK252.out | exact qw_ BK252.out _) hb)
    have n4_ := qm_ (qh_ (by repeat (first | (with_reducible first | exact HB.out | apply qc_ | apply qx_ | apply qf_ | refine qg_ ?_ GE251.out | refine qg_ ?_ GE252.out) | exact HB.out)) hb)
    have n5_ := qm_ (hbox)
    have n6_ := qm_ ((by rw [hg]; exact (qz_ (by repeat (first | (with_reducible first | exact HB.out | apply qc_ | apply qx_ | apply qf_ | refine qg_ ?_ GE251.out | refine qg_ ?_ GE252.out) | exact HB.out))) : w.heap.size ≤ gb259))
    have n7_ := qm_ ((by rw [hg]; exact (qz_ (by repeat (first | (with_reducible first | exact HB.out | apply qc_ | apply qx_ | apply qf_ | refine qg_ ?_ GE251.out | refine qg_ ?_ GE252.out) | exact HB.out))) : w.heap.size ≤ gb259))
    have n8_ := qm_ ((by rw [hg]; exact Nat.ne_of_lt (blk_lt (g := gb251) (o := .cells #[.slice A0_0 l0_0.length c0_0, .slice A0_1 l0_1.length c0_1, .slice A0_2 l0_2.length c0_2] 30 (0, 0)) (by first | with_reducible exact BK251.out | with_reducible exact qu_ BK251.out _ | exact BK251.out | exact qw_ BK251.out _)) : gb251 ≠ gb259))
    have n9_ := qm_ ((by rw [hg]; exact Nat.ne_of_gt (blk_lt (g := gb251) (o := .cells #[.slice A0_0 l0_0.length c0_0, .slice A0_1 l0_1.length c0_1, .slice A0_2 l0_2.length c0_2] 30 (0, 0)) (by first | with_reducible exact BK251.out | with_reducible exact qu_ BK251.out _ | exact BK251.out | exact qw_ BK251.out _)) : gb259 ≠ gb251))
    have n10_ := qm_ ((by rw [hg]; exact Nat.ne_of_lt (blk_lt (g := gb252) (o := .cells #[.slice none 0 0, .slice none 0 0, .slice none 0 0] 30 (0, 0)) (by first | with_reducible exact BK252.out | with_reducible exact qu_ BK252.out _ | exact BK252.out | exact qw_ BK252.out _)) : gb252 ≠ gb259))
    have n11_ := qm_ ((by rw [hg]; exact Nat.ne_of_gt (blk_lt (g := gb252) (o := .cells #[.slice none 0 0, .slice none 0 0, .slice none 0 0] 30 (0, 0)) (by first | with_reducible exact BK252.out | with_reducible exact qu_ BK252.out _ | exact BK252.out | exact qw_ BK252.out _)) : gb259 ≠ gb252))
    clear HO255
    clear HO258
    clear BK251
    clear BK252
    clear HB
    have HO255 := n0_
    have HO258 := n1_
    have BK251 := n2_
    have BK252 := n3_
    have HB := n4_
    have BK259 := n5_
    have GW259 := n6_
    have GE259 := n7_
    have NB251_259 := n8_
    have NB259_251 := n9_
    have NB252_259 := n10_
    have NB259_252 := n11_
    clear n0_ n1_ n2_ n3_ n4_ n5_ n6_ n7_ n8_ n9_ n10_ n11_
    clear hb hbox hg
    refine hK.out _ _ ⟨(blk_cell BK251.out 0).trans rfl, (blk_cell BK251.out 1).trans rfl, (blk_cell BK251.out 2).trans rfl⟩ (fun hHeld => ?_)
    clear hK K
    refine norm_ (a' := ?_) ?_ ?_
    rotate_left
    ·show Act.put _ (some 3) _ = _
     simp only [Act.put, la_, lb_, lc_, i64_w, i32_w]
     rfl
    exact norm_ (by simp only [putAll, Act.put, la_, lb_, lc_]) (hCont (.slice Ao10 t253.length co10, .slice Ao9 t256.length co9, gb259) _ ⟨hHeld, (by (with_reducible repeat (first | apply qa_ | apply qn_ | apply qd_)); exact HO255.out), (by (with_reducible repeat (first | apply qa_ | apply qn_ | apply qd_)); exact HO258.out), (by first | with_reducible exact BK251.out | with_reducible exact qu_ BK251.out _ | exact BK251.out | exact qw_ BK251.out _), (by first | with_reducible exact BK252.out | with_reducible exact qu_ BK252.out _ | exact BK252.out | exact qw_ BK252.out _), (by first | with_reducible exact BK259.out | with_reducible exact qu_ BK259.out _ | exact BK259.out | exact qw_ BK259.out _), GW259.out, GE259.out, NB251_259.out, NB259_251.out, NB252_259.out, NB259_252.out, (by repeat (first | (with_reducible first | exact HB.out | apply qc_ | apply qx_ | apply qf_ | refine qg_ ?_ GE251.out | refine qg_ ?_ GE252.out | refine qg_ ?_ GE259.out) | exact HB.out))⟩)
   ·skip
    refine box_step ?hg (N := 3) ?hd (cs := #[.slice none 0 0, .slice none 0 0, .slice none 0 0]) (t := 30) ?hr ?_; (case hd => rfl); (case hg => rfl); (case hr => first | (go_simp; done) | (go_simp; rfl))
    intro gb259 hg w8 hbox hb
    have n0_ := qm_ (qb_ (by (with_reducible repeat (first | apply qa_ | apply qn_ | apply qd_)); exact HO255.out) hb)
    have n1_ := qm_ (qs_ (g := gb251) (o := .cells #[.slice A0_0 l0_0.length c0_0, .slice A0_1 l0_1.length c0_1, .slice A0_2 l0_2.length c0_2] 30 (0, 0)) (by first | with_reducible exact BK251.out | with_reducible exact qu_ BK251.out _ | exact BK251.out | exact qw_ BK251.out _) hb)
    have n2_ := qm_ (qs_ (g := gb252) (o := .cells #[.slice none 0 0, .slice none 0 0, .slice none 0 0] 30 (0, 0)) (by first | with_reducible exact BK252.out | with_reducible exact qu_ BK252.out _ | exact BK252.out | exact qw_ BK252.out _) hb)
    have n3_ := qm_ (qh_ (by repeat (first | (with_reducible first | exact HB.out | apply qc_ | apply qx_ | apply qf_ | refine qg_ ?_ GE251.out | refine qg_ ?_ GE252.out) | exact HB.out)) hb)
    have n4_ := qm_ (hbox)
    have n5_ := qm_ ((by rw [hg]; exact (qz_ (by repeat (first | (with_reducible first | exact HB.out | apply qc_ | apply qx_ | apply qf_ | refine qg_ ?_ GE251.out | refine qg_ ?_ GE252.out) | exact HB.out))) : w.heap.size ≤ gb259))
    have n6_ := qm_ ((by rw [hg]; exact (qz_ (by repeat (first | (with_reducible first | exact HB.out | apply qc_ | apply qx_ | apply qf_ | refine qg_ ?_ GE251.out | refine qg_ ?_ GE252.out) | exact HB.out))) : w.heap.size ≤ gb259))
    have n7_ := qm_ ((by rw [hg]; exact Nat.ne_of_lt (blk_lt (g := gb251) (o := .cells #[.slice A0_0 l0_0.length c0_0, .slice A0_1 l0_1.length c0_1, .slice A0_2 l0_2.length c0_2] 30 (0, 0)) (by first | with_reducible exact BK251.out | with_reducible exact qu_ BK251.out _ | exact BK251.out | exact qw_ BK251.out _)) : gb251 ≠ gb259))
    have n8_ := qm_ ((by rw [hg]; exact Nat.ne_of_gt (blk_lt (g := gb251) (o := .cells #[.slice A0_0 l0_0.length c0_0, .slice A0_1 l0_1.length c0_1, .slice A0_2 l0_2.length c0_2] 30 (0, 0)) (by first | with_reducible exact BK251.out | with_reducible exact qu_ BK251.out _ | exact BK251.out | exact qw_ BK251.out _)) : gb259 ≠ gb251))
    have n9_ := qm_ ((by rw [hg]; exact Nat.ne_of_lt (blk_lt (g := gb252) (o := .cells #[.slice none 0 0, .slice none 0 0, .slice none 0 0] 30 (0, 0)) (by first | with_reducible exact BK252.out | with_reducible exact qu_ BK252.out _ | exact BK252.out | exact qw_ BK252.out _)) : gb252 ≠ gb259))
    have n10_ := qm_ ((by rw [hg]; exact Nat.ne_of_gt (blk_lt (g := gb252) (o := .cells #[.slice none 0 0, .slice none 0 0, .slice none 0 0] 30 (0, 0)) (by first | with_reducible exact BK252.out | with_reducible exact qu_ BK252.out _ | exact BK252.out | exact qw_ BK252.out _)) : gb259 ≠ gb252))
    clear HO255
    clear BK251
    clear BK252
    clear HB
    have HO255 := n0_
    have BK251 := n1_
    have BK252 := n2_
    have HB := n3_
    have BK259 := n4_
    have GW259 := n5_
    have GE259 := n6_
    have NB251_259 := n7_
    have NB259_251 := n8_
    have NB252_259 := n9_
    have NB259_252 := n10_
    clear n0_ n1_ n2_ n3_ n4_ n5_ n6_ n7_ n8_ n9_ n10_
    clear hb hbox hg
    refine hK.out _ _ ⟨(blk_cell BK251.out 0).trans rfl, (blk_cell BK251.out 1).trans rfl, (blk_cell BK251.out 2).trans rfl⟩ (fun hHeld => ?_)
    clear hK K
    refine norm_ (a' := ?_) ?_ ?_
    rotate_left
    ·show Act.put _ (some 3) _ = _
     simp only [Act.put, la_, lb_, lc_, i64_w, i32_w]
     rfl
    refine one_ (i := 5) (N := some 11) #[true, true, true, true, true, true, false, true, false] rfl rfl (one_of HT_.out (by kernel_rfl)) (by decide) (fun K hK => ?_)
    refine goes_ Try.func80 (by kernel_rfl) rfl #[.slice A0_2 l0_2.length c0_2] (by rfl) rfl rfl (by (try simp only [List.map_toArray, List.map_cons, List.map_nil]); first | done | rfl | (simp only [List.length_drop, List.length_take]; rfl)) ?_
    with_reducible refine (slices_Clone_int_int.calls _ _ l0_2 t256 _ ?side1 ?side2 A3.out).mono ?_
    (case side1 => repeat (first | exact (Kd.C_below HR0_2.out HB.out) | (with_reducible refine Kd.C_alloc ?_ _) | (with_reducible refine Kd.C_drewN ?_ _) | (with_reducible refine Kd.C_drew ?_)))
    (case side2 => exact HC0_2.out)
    rintro e w9 ⟨v257, rfl, ho0, hb⟩
    refine ⟨_, rfl, ?_⟩
    have n0_ := qm_ (qb_ (by (with_reducible repeat (first | apply qa_ | apply qn_ | apply qd_)); exact HO255.out) hb)
    have n1_ := qm_ (ql_ ho0 (qz_ (by repeat (first | (with_reducible first | exact HB.out | apply qc_ | apply qx_ | apply qf_ | refine qg_ ?_ GE251.out | refine qg_ ?_ GE252.out | refine qg_ ?_ GE259.out) | exact HB.out))))
    have n2_ := qm_ (qs_ (g := gb251) (o := .cells #[.slice A0_0 l0_0.length c0_0, .slice A0_1 l0_1.length c0_1, .slice A0_2 l0_2.length c0_2] 30 (0, 0)) (by first | with_reducible exact BK251.out | with_reducible exact qu_ BK251.out _ | exact BK251.out | exact qw_ BK251.out _) hb)
    have n3_ := qm_ (qs_ (g := gb252) (o := .cells #[.slice none 0 0, .slice none 0 0, .slice none 0 0] 30 (0, 0)) (by first | with_reducible exact BK252.out | with_reducible exact qu_ BK252.out _ | exact BK252.out | exact qw_ BK252.out _) hb)
    have n4_ := qm_ (qs_ (g := gb259) (o := .cells #[.slice none 0 0, .slice none 0 0, .slice none 0 0] 30 (0, 0)) (by first | with_reducible exact BK259.out | with_reducible exact qu_ BK259.out _ | exact BK259.out | exact qw_ BK259.out _) hb)
    have n5_ := qm_ (qh_ (by repeat (first | (with_reducible first | exact HB.out | apply qc_ | apply qx_ | apply qf_ | refine qg_ ?_ GE251.out | refine qg_ ?_ GE252.out | refine qg_ ?_ GE259.out) | exact HB.out)) hb)
    clear HO255
    clear BK251
    clear BK252
    clear BK259
    clear HB
    have HO255 := n0_
    have HO258 := n1_
    have BK251 := n2_
    have BK252 := n3_
    have BK259 := n4_
    have HB := n5_
    clear n0_ n1_ n2_ n3_ n4_ n5_
    (try clear hb)
    (try clear hb2)
    (try clear hk)
    (try clear hi)
    (try clear ho0)
    obtain ⟨Ao10, co10, eo10⟩ := Kd.R_slice HO258.out
    (first | subst eo10 | (injection eo10 with f1_ f2_ f3_; have f4_ := f1_.symm; have f5_ := f3_.symm; clear f1_ f2_ f3_; subst f4_; subst f5_))
    obtain ⟨Ao11, co11, eo11⟩ := Kd.R_slice HO255.out
    (first | subst eo11 | (injection eo11 with f1_ f2_ f3_; have f4_ := f1_.symm; have f5_ := f3_.symm; clear f1_ f2_ f3_; subst f4_; subst f5_))
    refine hK.out _ _ ⟨(blk_cell BK251.out 0).trans rfl, (blk_cell BK251.out 1).trans rfl, (blk_cell BK251.out 2).trans rfl⟩ (fun hHeld => ?_)
    clear hK K
    refine norm_ (a' := ?_) ?_ ?_
    rotate_left
    ·show Act.put _ (some 11) _ = _
     simp only [Act.put, la_, lb_, lc_, i64_w, i32_w]
     rfl
    refine pure_ (i := 6) (N := some 12) (v := ?_) (a' := ?_) #[true, true, true, true, true, true, true, true, false] rfl rfl (any_of HT_.out (by kernel_rfl)) (fun _ _ _ h => h) (Or.inl ⟨by rfl, ?_⟩) ?_ ?_
    rotate_left
    ·intro w'
     go_simp
     with_reducible rfl
    rotate_left
    ·simp only [Act.put, la_, lb_, lc_, i64_w, i32_w]
     rfl
    exact norm_ (by simp only [putAll, Act.put, la_, lb_, lc_]) (hCont (.slice Ao11 t253.length co11, .slice Ao10 t256.length co10, gb259) _ ⟨hHeld, (by (with_reducible repeat (first | apply qa_ | apply qn_ | apply qd_)); exact HO255.out), (by (with_reducible repeat (first | apply qa_ | apply qn_ | apply qd_)); exact HO258.out), (by first | with_reducible exact BK251.out | with_reducible exact qu_ BK251.out _ | exact BK251.out | exact qw_ BK251.out _), (by first | with_reducible exact BK252.out | with_reducible exact qu_ BK252.out _ | exact BK252.out | exact qw_ BK252.out _), (by first | with_reducible exact BK259.out | with_reducible exact qu_ BK259.out _ | exact BK259.out | exact qw_ BK259.out _), GW259.out, GE259.out, NB251_259.out, NB259_251.out, NB252_259.out, NB259_252.out, (by repeat (first | (with_reducible first | exact HB.out | apply qc_ | apply qx_ | apply qf_ | refine qg_ ?_ GE251.out | refine qg_ ?_ GE252.out | refine qg_ ?_ GE259.out) | exact HB.out))⟩)
  ·skip
   refine box_step ?hg (N := 3) ?hd (cs := #[.slice none 0 0, .slice none 0 0, .slice none 0 0]) (t := 30) ?hr ?_; (case hd => rfl); (case hg => rfl); (case hr => first | (go_simp; done) | (go_simp; rfl))
   intro gb259 hg w7 hbox hb
   have n0_ := qm_ (qs_ (g := gb251) (o := .cells #[.slice A0_0 l0_0.length c0_0, .slice A0_1 l0_1.length c0_1, .slice A0_2 l0_2.length c0_2] 30 (0, 0)) (by first | with_reducible exact BK251.out | with_reducible exact qu_ BK251.out _ | exact BK251.out | exact qw_ BK251.out _) hb)
   have n1_ := qm_ (qs_ (g := gb252) (o := .cells #[.slice none 0 0, .slice none 0 0, .slice none 0 0] 30 (0, 0)) (by first | with_reducible exact BK252.out | with_reducible exact qu_ BK252.out _ | exact BK252.out | exact qw_ BK252.out _) hb)
   have n2_ := qm_ (qh_ (by repeat (first | (with_reducible first | exact HB.out | apply qc_ | apply qx_ | apply qf_ | refine qg_ ?_ GE251.out | refine qg_ ?_ GE252.out) | exact HB.out)) hb)
   have n3_ := qm_ (hbox)
   have n4_ := qm_ ((by rw [hg]; exact (qz_ (by repeat (first | (with_reducible first | exact HB.out | apply qc_ | apply qx_ | apply qf_ | refine qg_ ?_ GE251.out | refine qg_ ?_ GE252.out) | exact HB.out))) : w.heap.size ≤ gb259))
   have n5_ := qm_ ((by rw [hg]; exact (qz_ (by repeat (first | (with_reducible first | exact HB.out | apply qc_ | apply qx_ | apply qf_ | refine qg_ ?_ GE251.out | refine qg_ ?_ GE252.out) | exact HB.out))) : w.heap.size ≤ gb259))
   have n6_ := qm_ ((by rw [hg]; exact Nat.ne_of_lt (blk_lt (g := gb251) (o := .cells #[.slice A0_0 l0_0.length c0_0, .slice A0_1 l0_1.length c0_1, .slice A0_2 l0_2.length c0_2] 30 (0, 0)) (by first | with_reducible exact BK251.out | with_reducible exact qu_ BK251.out _ | exact BK251.out | exact qw_ BK251.out _)) : gb251 ≠ gb259))
   have n7_ := qm_ ((by rw [hg]; exact Nat.ne_of_gt (blk_lt (g := gb251) (o := .cells #[.slice A0_0 l0_0.length c0_0, .slice A0_1 l0_1.length c0_1, .slice A0_2 l0_2.length c0_2] 30 (0, 0)) (by first | with_reducible exact BK251.out | with_reducible exact qu_ BK251.out _ | exact BK251.out | exact qw_ BK251.out _)) : gb259 ≠ gb251))
   have n8_ := qm_ ((by rw [hg]; exact Nat.ne_of_lt (blk_lt (g := gb252) (o := .cells #[.slice none 0 0, .slice none 0 0, .slice none 0 0] 30 (0, 0)) (by first | with_reducible exact BK252.out | with_reducible exact qu_ BK252.out _ | exact BK252.out | exact qw_ BK252.out _)) : gb252 ≠ gb259))
   have n9_ := qm_ ((by rw [hg]; exact Nat.ne_of_gt (blk_lt (g := gb252) (o := .cells #[.slice none 0 0, .slice none 0 0, .slice none 0 0] 30 (0, 0)) (by first | with_reducible exact BK252.out | with_reducible exact qu_ BK252.out _ | exact BK252.out | exact qw_ BK252.out _)) : gb259 ≠ gb252))
   clear BK251
   clear BK252
   clear HB
   have BK251 := n0_
   have BK252 := n1_
   have HB := n2_
   have BK259 := n3_
   have GW259 := n4_
   have GE259 := n5_
   have NB251_259 := n6_
   have NB259_251 := n7_
   have NB252_259 := n8_
   have NB259_252 := n9_
   clear n0_ n1_ n2_ n3_ n4_ n5_ n6_ n7_ n8_ n9_
   clear hb hbox hg
   refine hK.out _ _ ⟨(blk_cell BK251.out 0).trans rfl, (blk_cell BK251.out 1).trans rfl, (blk_cell BK251.out 2).trans rfl⟩ (fun hHeld => ?_)
   clear hK K
   refine norm_ (a' := ?_) ?_ ?_
   rotate_left
   ·show Act.put _ (some 3) _ = _
    simp only [Act.put, la_, lb_, lc_, i64_w, i32_w]
    rfl
   refine one_ (i := 2) (N := some 8) #[true, true, true, true, true, false, false, true, false] rfl rfl (one_of HT_.out (by kernel_rfl)) (by decide) (fun K hK => ?_)
   refine goes_ Try.func107 (by kernel_rfl) rfl #[.slice A0_1 l0_1.length c0_1] (by rfl) rfl rfl (by (try simp only [List.map_toArray, List.map_cons, List.map_nil]); first | done | rfl | (simp only [List.length_drop, List.length_take]; rfl)) ?_
   with_reducible refine (slices_Clone_bool_bool.calls _ _ l0_1 t253 _ ?side1 ?side2 A2.out).mono ?_
   (case side1 => repeat (first | exact (Kd.C_below HR0_1.out HB.out) | (with_reducible refine Kd.C_alloc ?_ _) | (with_reducible refine Kd.C_drewN ?_ _) | (with_reducible refine Kd.C_drew ?_)))
   (case side2 => exact HC0_1.out)
   rintro e w8 ⟨v254, rfl, ho0, hb⟩
   refine ⟨_, rfl, ?_⟩
   have n0_ := qm_ (ql_ ho0 (qz_ (by repeat (first | (with_reducible first | exact HB.out | apply qc_ | apply qx_ | apply qf_ | refine qg_ ?_ GE251.out | refine qg_ ?_ GE252.out | refine qg_ ?_ GE259.out) | exact HB.out))))
   have n1_ := qm_ (qs_ (g := gb251) (o := .cells #[.slice A0_0 l0_0.length c0_0, .slice A0_1 l0_1.length c0_1, .slice A0_2 l0_2.length c0_2] 30 (0, 0)) (by first | with_reducible exact BK251.out | with_reducible exact qu_ BK251.out _ | exact BK251.out | exact qw_ BK251.out _) hb)
   have n2_ := qm_ (qs_ (g := gb252) (o := .cells #[.slice none 0 0, .slice none 0 0, .slice none 0 0] 30 (0, 0)) (by first | with_reducible exact BK252.out | with_reducible exact qu_ BK252.out _ | exact BK252.out | exact qw_ BK252.out _) hb)
   have n3_ := qm_ (qs_ (g := gb259) (o := .cells #[.slice none 0 0, .slice none 0 0, .slice none 0 0] 30 (0, 0)) (by first | with_reducible exact BK259.out | with_reducible exact qu_ BK259.out _ | exact BK259.out | exact qw_ BK259.out _) hb)
   have n4_ := qm_ (qh_ (by repeat (first | (with_reducible first | exact HB.out | apply qc_ | apply qx_ | apply qf_ | refine qg_ ?_ GE251.out | refine qg_ ?_ GE252.out | refine qg_ ?_ GE259.out) | exact HB.out)) hb)
   clear BK251
   clear BK252
   clear BK259
   clear HB
   have HO255 := n0_
   have BK251 := n1_
   have BK252 := n2_
   have BK259 := n3_
   have HB := n4_
   clear n0_ n1_ n2_ n3_ n4_
   (try clear hb)
   (try clear hb2)
   (try clear hk)
   (try clear hi)
   (try clear ho0)
   refine hK.out _ _ ⟨(blk_cell BK251.out 0).trans rfl, (blk_cell BK251.out 1).trans rfl, (blk_cell BK251.out 2).trans rfl⟩ (fun hHeld => ?_)
   clear hK K
   refine norm_ (a' := ?_) ?_ ?_
   rotate_left
   ·show Act.put _ (some 8) _ = _
    simp only [Act.put, la_, lb_, lc_, i64_w, i32_w]
    rfl
   refine one_ (i := 5) (N := some 11) #[true, true, true, true, true, true, false, true, false] rfl rfl (one_of HT_.out (by kernel_rfl)) (by decide) (fun K hK => ?_)
   refine goes_ Try.func80 (by kernel_rfl) rfl #[.slice A0_2 l0_2.length c0_2] (by rfl) rfl rfl (by (try simp only [List.map_toArray, List.map_cons, List.map_nil]); first | done | rfl | (simp only [List.length_drop, List.length_take]; rfl)) ?_
   with_reducible refine (slices_Clone_int_int.calls _ _ l0_2 t256 _ ?side1 ?side2 A3.out).mono ?_
   (case side1 => repeat (first | exact (Kd.C_below HR0_2.out HB.out) | (with_reducible refine Kd.C_alloc ?_ _) | (with_reducible refine Kd.C_drewN ?_ _) | (with_reducible refine Kd.C_drew ?_)))
   (case side2 => exact HC0_2.out)
   rintro e w9 ⟨v257, rfl, ho0, hb⟩
   refine ⟨_, rfl, ?_⟩
   have n0_ := qm_ (qb_ (by (with_reducible repeat (first | apply qa_ | apply qn_ | apply qd_)); exact HO255.out) hb)
   have n1_ := qm_ (ql_ ho0 (qz_ (by repeat (first | (with_reducible first | exact HB.out | apply qc_ | apply qx_ | apply qf_ | refine qg_ ?_ GE251.out | refine qg_ ?_ GE252.out | refine qg_ ?_ GE259.out) | exact HB.out))))
   have n2_ := qm_ (qs_ (g := gb251) (o := .cells #[.slice A0_0 l0_0.length c0_0, .slice A0_1 l0_1.length c0_1, .slice A0_2 l0_2.length c0_2] 30 (0, 0)) (by first | with_reducible exact BK251.out | with_reducible exact qu_ BK251.out _ | exact BK251.out | exact qw_ BK251.out _) hb)
   have n3_ := qm_ (qs_ (g := gb252) (o := .cells #[.slice none 0 0, .slice none 0 0, .slice none 0 0] 30 (0, 0)) (by first | with_reducible exact BK252.out | with_reducible exact qu_ BK252.out _ | exact BK252.out | exact qw_ BK252.out _) hb)
   have n4_ := qm_ (qs_ (g := gb259) (o := .cells #[.slice none 0 0, .slice none 0 0, .slice none 0 0] 30 (0, 0)) (by first | with_reducible exact BK259.out | with_reducible exact qu_ BK259.out _ | exact BK259.out | exact qw_ BK259.out _) hb)
   have n5_ := qm_ (qh_ (by repeat (first | (with_reducible first | exact HB.out | apply qc_ | apply qx_ | apply qf_ | refine qg_ ?_ GE251.out | refine qg_ ?_ GE252.out | refine qg_ ?_ GE259.out) | exact HB.out)) hb)
   clear HO255
   clear BK251
   clear BK252
   clear BK259
   clear HB
   have HO255 := n0_
   have HO258 := n1_
   have BK251 := n2_
   have BK252 := n3_
   have BK259 := n4_
   have HB := n5_
   clear n0_ n1_ n2_ n3_ n4_ n5_
   (try clear hb)
   (try clear hb2)
   (try clear hk)
   (try clear hi)
   (try clear ho0)
   obtain ⟨Ao10, co10, eo10⟩ := Kd.R_slice HO258.out
   (first | subst eo10 | (injection eo10 with f1_ f2_ f3_; have f4_ := f1_.symm; have f5_ := f3_.symm; clear f1_ f2_ f3_; subst f4_; subst f5_))
   obtain ⟨Ao11, co11, eo11⟩ := Kd.R_slice HO255.out
   (first | subst eo11 | (injection eo11 with f1_ f2_ f3_; have f4_ := f1_.symm; have f5_ := f3_.symm; clear f1_ f2_ f3_; subst f4_; subst f5_))
   refine hK.out _ _ ⟨(blk_cell BK251.out 0).trans rfl, (blk_cell BK251.out 1).trans rfl, (blk_cell BK251.out 2).trans rfl⟩ (fun hHeld => ?_)
   clear hK K
   refine norm_ (a' := ?_) ?_ ?_
   rotate_left
   ·show Act.put _ (some 11) _ = _
    simp only [Act.put, la_, lb_, lc_, i64_w, i32_w]
    rfl
   refine pure_ (i := 6) (N := some 12) (v := ?_) (a' := ?_) #[true, true, true, true, true, true, true, true, false] rfl rfl (any_of HT_.out (by kernel_rfl)) (fun _ _ _ h => h) (Or.inl ⟨by rfl, ?_⟩) ?_ ?_
   rotate_left
   ·intro w'
    go_simp
    with_reducible rfl
   rotate_left
   ·simp only [Act.put, la_, lb_, lc_, i64_w, i32_w]
    rfl
   exact norm_ (by simp only [putAll, Act.put, la_, lb_, lc_]) (hCont (.slice Ao11 t253.length co11, .slice Ao10 t256.length co10, gb259) _ ⟨hHeld, (by (with_reducible repeat (first | apply qa_ | apply qn_ | apply qd_)); exact HO255.out), (by (with_reducible repeat (first | apply qa_ | apply qn_ | apply qd_)); exact HO258.out), (by first | with_reducible exact BK251.out | with_reducible exact qu_ BK251.out _ | exact BK251.out | exact qw_ BK251.out _), (by first | with_reducible exact BK252.out | with_reducible exact qu_ BK252.out _ | exact BK252.out | exact qw_ BK252.out _), (by first | with_reducible exact BK259.out | with_reducible exact qu_ BK259.out _ | exact BK259.out | exact qw_ BK259.out _), GW259.out, GE259.out, NB251_259.out, NB259_251.out, NB252_259.out, NB259_252.out, (by repeat (first | (with_reducible first | exact HB.out | apply qc_ | apply qx_ | apply qf_ | refine qg_ ?_ GE251.out | refine qg_ ?_ GE252.out | refine qg_ ?_ GE259.out) | exact HB.out))⟩)
 rintro ⟨v254, v257, gb259⟩ w12 ⟨hS_, h0_, h1_, h2_, h3_, h4_, h5_, h6_, h7_, h8_, h9_, h10_, h11_⟩
 have n0_ : Aside0 (Kd.R Kd.bool 4 w12 w.heap.size (fun _ => True) v254 t253) := ⟨h0_⟩
 have n1_ : Aside0 (Kd.R (Kd.int .i64) 3 w12 w.heap.size (fun _ => True) v257 t256) := ⟨h1_⟩
 have n2_ : Aside0 (w12.heap[gb251]? = some (.cells #[.slice A0_0 l0_0.length c0_0, .slice A0_1 l0_1.length c0_1, .slice A0_2 l0_2.length c0_2] 30 (0, 0))) := ⟨h2_⟩
 have n3_ : Aside0 (w12.heap[gb252]? = some (.cells #[.slice none 0 0, .slice none 0 0, .slice none 0 0] 30 (0, 0))) := ⟨h3_⟩
 have n4_ : Aside0 (w12.heap[gb259]? = some (.cells #[.slice none 0 0, .slice none 0 0, .slice none 0 0] 30 (0, 0))) := ⟨h4_⟩
 have n5_ : Aside0 (w.heap.size ≤ gb259) := ⟨h5_⟩
 have n6_ : Aside0 (w.heap.size ≤ gb259) := ⟨h6_⟩
 have n7_ : Aside0 (gb251 ≠ gb259) := ⟨h7_⟩
 have n8_ : Aside0 (gb259 ≠ gb251) := ⟨h8_⟩
 have n9_ : Aside0 (gb252 ≠ gb259) := ⟨h9_⟩
 have n10_ : Aside0 (gb259 ≠ gb252) := ⟨h10_⟩
 have n11_ : Aside0 (Below w.heap.size w w12) := ⟨h11_⟩
 clear BK251
 clear BK252
 clear HB
 clear h0_ h1_ h2_ h3_ h4_ h5_ h6_ h7_ h8_ h9_ h10_ h11_
 have HO255 := n0_
 have HO258 := n1_
 have BK251 := n2_
 have BK252 := n3_
 have BK259 := n4_
 have GW259 := n5_
 have GE259 := n6_
 have NB251_259 := n7_
 have NB259_251 := n8_
 have NB252_259 := n9_
 have NB259_252 := n10_
 have HB := n11_
 clear n0_ n1_ n2_ n3_ n4_ n5_ n6_ n7_ n8_ n9_ n10_ n11_
 have hHeld : w12.cell? ⟨gb251, 0, none⟩ = some (.slice A0_0 l0_0.length c0_0) ∧ w12.cell? ⟨gb251, 1, none⟩ = some (.slice A0_1 l0_1.length c0_1) ∧ w12.cell? ⟨gb251, 2, none⟩ = some (.slice A0_2 l0_2.length c0_2) := hS_
 obtain ⟨Ao13, co13, eo13⟩ := Kd.R_slice HO258.out
 (first | subst eo13 | (injection eo13 with f1_ f2_ f3_; have f4_ := f1_.symm; have f5_ := f3_.symm; clear f1_ f2_ f3_; subst f4_; subst f5_))
 obtain ⟨Ao14, co14, eo14⟩ := Kd.R_slice HO255.out
 (first | subst eo14 | (injection eo14 with f1_ f2_ f3_; have f4_ := f1_.symm; have f5_ := f3_.symm; clear f1_ f2_ f3_; subst f4_; subst f5_))
 refine norm_ (a' := ?_) ?_ ?_
 rotate_left
 ·simp only [putAll, Act.put, la_, lb_, lc_]
  rfl
 refine one_ (i := 8) (N := none) #[true, true, true, true, true, true, true, true, true] rfl rfl (one_of HT_.out (by kernel_rfl)) (by decide) (fun K hK => ?_)
 have hs15 : w12.cell? ⟨gb259, 0, none⟩ = some (.slice none 0 0) := (blk_cell BK259.out 0).trans rfl
 have hfs15 := blk_frozen BK259.out 0
 have hns15_0 := NB251_259.out
 have hns15_1 := NB252_259.out
 have hms15_0 := NB259_251.out
 have hms15_1 := NB259_252.out
 have hs16 : w12.cell? ⟨gb259, 1, none⟩ = some (.slice none 0 0) := (blk_cell BK259.out 1).trans rfl
 have hfs16 := blk_frozen BK259.out 1
 have hns16_0 := NB251_259.out
 have hns16_1 := NB252_259.out
 have hms16_0 := NB259_251.out
 have hms16_1 := NB259_252.out
 have hs17 : w12.cell? ⟨gb259, 2, none⟩ = some (.slice none 0 0) := (blk_cell BK259.out 2).trans rfl
 have hfs17 := blk_frozen BK259.out 2
 have hns17_0 := NB251_259.out
 have hns17_1 := NB252_259.out
 have hms17_0 := NB259_251.out
 have hms17_1 := NB259_252.out
 refine skip_ (w1 := ?_) (by rfl) rfl ?_ ?_
 rotate_left
 ·go_simp
  rfl
 refine hK.out _ _ ⟨((cell_far (p := ⟨gb259, _, none⟩) NB251_259.out _).trans (((cell_far (p := ⟨gb259, _, none⟩) NB251_259.out _).trans (((cell_far (p := ⟨gb259, _, none⟩) NB251_259.out _).trans (hHeld.1)))))), ((cell_far (p := ⟨gb259, _, none⟩) NB251_259.out _).trans (((cell_far (p := ⟨gb259, _, none⟩) NB251_259.out _).trans (((cell_far (p := ⟨gb259, _, none⟩) NB251_259.out _).trans (hHeld.2.1)))))), ((cell_far (p := ⟨gb259, _, none⟩) NB251_259.out _).trans (((cell_far (p := ⟨gb259, _, none⟩) NB251_259.out _).trans (((cell_far (p := ⟨gb259, _, none⟩) NB251_259.out _).trans (hHeld.2.2))))))⟩ (fun hHeld => ?_)
 clear hK K
 refine done_ (done_of HT_.out (by kernel_rfl)) ?_
 have hnb18 := NB251_252.out
 have hnc18 := NB252_251.out
 have hnb19 := NB251_259.out
 have hnc19 := NB259_251.out
 have hcz20_0 : w12.cell? ⟨gb251, 0, none⟩ = some (.slice A0_0 l0_0.length c0_0) := (blk_cell BK251.out 0).trans rfl
 have hcz20_1 : w12.cell? ⟨gb251, 1, none⟩ = some (.slice A0_1 l0_1.length c0_1) := (blk_cell BK251.out 1).trans rfl
 have hcz20_2 : w12.cell? ⟨gb251, 2, none⟩ = some (.slice A0_2 l0_2.length c0_2) := (blk_cell BK251.out 2).trans rfl
 have hfz20_0 := blk_frozen BK251.out 0
 have hfz20_1 := blk_frozen BK251.out 1
 have hfz20_2 := blk_frozen BK251.out 2
 try go_wp2
 go_loopg [16] k (fun kq v16 w' => ∃ (x16_1 : Int) (x260000_1 : List (List Int)) (u260000 : Value), v16 = .int .i64 x16_1 ∧ Aside0 (impl_cloneHeap.l0 kq l0_0 (l0_0.length : Int) x16_1 x260000_1 t253 t256 = some (r1, r2, r3)) ∧ Aside0 (kq ≤ k) ∧ Aside0 (Kd.S (Kd.slice 3 (Kd.int .i64)) 24 w' w.heap.size (fun k_ => some k_ ≠ ((.slice Ao13 t256.length co13) : Value).ownBlock) u260000 x260000_1) ∧ Aside0 (Kd.R Kd.bool 4 w' w.heap.size (fun _ => True) (.slice Ao14 t253.length co14) t253) ∧ Aside0 (Kd.R (Kd.int .i64) 3 w' w.heap.size (fun _ => True) (.slice Ao13 t256.length co13) t256) ∧ Aside0 (w'.heap[gb251]? = some (.cells #[(.slice A0_0 l0_0.length c0_0), (.slice A0_1 l0_1.length c0_1), (.slice A0_2 l0_2.length c0_2)] 30 (0, 0))) ∧ Aside0 (w'.heap[gb252]? = some (.cells #[(.slice none 0 0), (.slice none 0 0), (.slice none 0 0)] 30 (0, 0))) ∧ Aside0 (w'.heap[gb259]? = some (.cells #[u260000, (.slice Ao14 t253.length co14), (.slice Ao13 t256.length co13)] 30 (0, 0))) ∧ Aside0 (Below w.heap.size w w'))
 case atStart => exact ⟨(0), (([] : List (List Int))), (.slice none 0 0), (by first | rfl | (simp; done) | (simp [*]; done)), H', ⟨Nat.le_refl _⟩, ⟨by first | exact Kd.S_nil _ _ _ _ _ | exact Kd.N_nil _ _ _ _ _ | exact Kd.V_nil _ _ _ _ _ | exact Kd.Q_nil _ _ _ _ _ | exact Kd.R_nil _ _ _ _ _⟩, ⟨by (with_reducible repeat (first | apply qa_ | apply qn_ | apply qd_)); exact Kd.R_mono (Kd.R_far (p := ⟨gb259, 2, none⟩) (Kd.R_far (p := ⟨gb259, 1, none⟩) (Kd.R_far (p := ⟨gb259, 0, none⟩) (Kd.R_types HO255.out BK259.out (by decide)) (fun _ hk => hk.2) (.slice none 0 0)) (fun _ hk => hk.2) (.slice Ao14 t253.length co14)) (fun _ hk => hk.2) (.slice Ao13 t256.length co13)) (fun _ hk => trivial)⟩, ⟨by (with_reducible repeat (first | apply qa_ | apply qn_ | apply qd_)); exact Kd.R_mono (Kd.R_far (p := ⟨gb259, 2, none⟩) (Kd.R_far (p := ⟨gb259, 1, none⟩) (Kd.R_far (p := ⟨gb259, 0, none⟩) (Kd.R_types HO258.out BK259.out (by decide)) (fun _ hk => hk.2) (.slice none 0 0)) (fun _ hk => hk.2) (.slice Ao14 t253.length co14)) (fun _ hk => hk.2) (.slice Ao13 t256.length co13)) (fun _ hk => trivial)⟩, ⟨by (with_reducible repeat (first | refine qu_ ?_ _ | refine qv_ ?_ | refine qw_ ?_ _)); refine blk_far ?_ NB251_259.out _; (with_reducible repeat (first | refine qu_ ?_ _ | refine qv_ ?_ | refine qw_ ?_ _)); refine blk_far ?_ NB251_259.out _; (with_reducible repeat (first | refine qu_ ?_ _ | refine qv_ ?_ | refine qw_ ?_ _)); refine blk_far ?_ NB251_259.out _; (with_reducible repeat (first | refine qu_ ?_ _ | refine qv_ ?_ | refine qw_ ?_ _)); exact BK251.out⟩, ⟨by (with_reducible repeat (first | refine qu_ ?_ _ | refine qv_ ?_ | refine qw_ ?_ _)); refine blk_far ?_ NB252_259.out _; (with_reducible repeat (first | refine qu_ ?_ _ | refine qv_ ?_ | refine qw_ ?_ _)); refine blk_far ?_ NB252_259.out _; (with_reducible repeat (first | refine qu_ ?_ _ | refine qv_ ?_ | refine qw_ ?_ _)); refine blk_far ?_ NB252_259.out _; (with_reducible repeat (first | refine qu_ ?_ _ | refine qv_ ?_ | refine qw_ ?_ _)); exact BK252.out⟩, ⟨by (with_reducible repeat (first | refine qu_ ?_ _ | refine qv_ ?_ | refine qw_ ?_ _)); refine blk_put (cs := #[.slice none 0 0, .slice Ao14 t253.length co14, .slice none 0 0]) ?_ 2 _ rfl; (with_reducible repeat (first | refine qu_ ?_ _ | refine qv_ ?_ | refine qw_ ?_ _)); refine blk_put (cs := #[.slice none 0 0, .slice none 0 0, .slice none 0 0]) ?_ 1 _ rfl; (with_reducible repeat (first | refine qu_ ?_ _ | refine qv_ ?_ | refine qw_ ?_ _)); refine blk_put (cs := #[.slice none 0 0, .slice none 0 0, .slice none 0 0]) ?_ 0 _ rfl; (with_reducible repeat (first | refine qu_ ?_ _ | refine qv_ ?_ | refine qw_ ?_ _)); exact BK259.out⟩, ⟨by repeat (first | (with_reducible first | exact HB.out | apply qc_ | apply qx_ | apply qf_ | refine qg_ ?_ GE251.out | refine qg_ ?_ GE252.out | refine qg_ ?_ GE259.out) | exact HB.out)⟩⟩
 case round =>
  clear H'
  try clear c1
  try clear p2
  try clear c7
  try clear c8
  try clear c10
  try clear c18
  try clear c19
  try clear hcz20_0
  try clear hcz20_1
  try clear hcz20_2
  try clear hfz20_0
  try clear hfz20_1
  try clear hfz20_2
  obtain ⟨x16_1, x260000_1, u260000, rfl, HA, HK1, HO_260000, HO_260001, HO_260002, BK251, BK252, BK259, HB⟩ := hrel
  cases gk with
  | zero => exact absurd HA.out (by simp [impl_cloneHeap.l0])
  | succ k1 =>
   have H := HA.out
   clear HA
   simp only [impl_cloneHeap.l0] at H
   by_cases c21 : x16_1 < (l0_0.length : Int)
   ·rw [if_pos c21] at H
    have c21b0 : decide (x16_1 < (l0_0.length : Int)) = true := decide_eq_true c21
    clear c21
    by_cases c22 : 0 ≤ x16_1
    ·rw [if_pos c22] at H
     have c22b0 : decide (0 ≤ x16_1) = true := decide_eq_true c22
     clear c22
     by_cases c23 : x16_1 < (l0_0.length : Int)
     ·rw [if_pos c23] at H
      have c23b0 : decide (x16_1 < (l0_0.length : Int)) = true := decide_eq_true c23
      clear c23
      replace H := Option.bind_eq_some_iff.mp H
      obtain ⟨t261, A240, H⟩ := H
      replace H : (if x260000_1.length < 5864062014805 then (impl_cloneHeap.l0 k1 l0_0 (l0_0.length : Int) (wrap64 (x16_1 + 1)) (x260000_1 ++ [t261]) t253 t256) else (none)) = some (r1, r2, r3) := H
      have A24 := qm_ A240
      clear A240
      by_cases c25 : x260000_1.length < 5864062014805
      ·rw [if_pos c25] at H
       have LMc25 := qm_ c25
       clear c25
       obtain ⟨y264, hy264⟩ : ∃ y_ : List (List Int), y_ = (x260000_1 ++ [t261]) := ⟨_, rfl⟩
       replace H : (impl_cloneHeap.l0 k1 l0_0 (l0_0.length : Int) (wrap64 (x16_1 + 1)) y264 t253 t256) = some (r1, r2, r3) := by first | (rw [hy264]; with_reducible exact H) | (have H2_ := (Option.bind_some _ _).symm.trans H; rw [hy264]; with_reducible exact H2_) | (have H2_ := (Option.bind_some _ _).symm.trans H; with_reducible exact H2_) | with_reducible exact H | (rw [hy264]; exact H) | exact H
       have Ny264 := qm_ hy264
       clear hy264
       have H' := qm_ H
       clear H
       have p260 : 0 ≤ (x16_1 : Int) := of_decide_eq_true (by first | (with_reducible assumption) | assumption)
       have q260 : x16_1 < (l0_0.length : Int) := of_decide_eq_true (by first | (with_reducible assumption) | assumption)
       obtain ⟨ad260, A260_0, c260_0, e260, hx260_0, hl260_0, hi260_0⟩ := at_L1 HR0_0.out x16_1 p260 q260
       cases e260
       replace hx260_0 := (HB.out.cell (World.block_lt_of_cell? w _ hx260_0)).trans hx260_0
       have HR260_0 := qm_ hi260_0
       have HC260_0 := qm_ hl260_0
       clear hi260_0 hl260_0
       replace p260 := eq_true p260
       replace q260 := eq_true q260
       try go_wp2
       have n0_ := qm_ (Kd.S_drew HO_260000.out)
       have n1_ := qm_ (qd_ HO_260001.out)
       have n2_ := qm_ (qd_ HO_260002.out)
       have n3_ := qm_ (qv_ BK251.out)
       have n4_ := qm_ (qv_ BK252.out)
       have n5_ := qm_ (qv_ BK259.out)
       have n6_ := qm_ (qf_ HB.out)
       clear HO_260000
       clear HO_260001
       clear HO_260002
       clear BK251
       clear BK252
       clear BK259
       clear HB
       have HO_260000 := n0_
       have HO_260001 := n1_
       have HO_260002 := n2_
       have BK251 := n3_
       have BK252 := n4_
       have BK259 := n5_
       have HB := n6_
       clear n0_ n1_ n2_ n3_ n4_ n5_ n6_
       refine start_ (n := 8) (S := fun w' => w'.cell? ⟨gb259, 0, none⟩ = some (u260000) ∧ w'.cell? ⟨gb259, 1, none⟩ = some (.slice Ao14 t253.length co14) ∧ w'.cell? ⟨gb259, 2, none⟩ = some (.slice Ao13 t256.length co13)) (ds := [7]) #[false, false, false, false, false, false, false, false] (by kernel_rfl) rfl rfl ⟨(blk_cell BK259.out 0).trans rfl, (blk_cell BK259.out 1).trans rfl, (blk_cell BK259.out 2).trans rfl⟩ (fun hHeld => ?_); refine with_tabW impl_cloneHeap.tab5 impl_cloneHeap.bits5 (fun HT_ HW_ => ?_)
       generalize wr.drew = w26 at HO_260000 HO_260001 HO_260002 BK251 BK252 BK259 HB hHeld ⊢
       refine pure_ (i := 0) (N := some 20) (v := ?_) (a' := ?_) #[true, false, false, false, false, false, false, false] rfl rfl (any_of HT_.out (by kernel_rfl)) (fun _ _ _ h => h) (Or.inl ⟨by rfl, ?_⟩) ?_ ?_
       rotate_left
       ·intro w'
        go_simp
        with_reducible rfl
       rotate_left
       ·simp only [Act.put, la_, lb_, lc_, i64_w, i32_w]
        rfl
       refine pure_ (i := 2) (N := some 22) (v := ?_) (a' := ?_) #[true, false, true, false, false, false, false, false] rfl rfl (any_of HT_.out (by kernel_rfl)) (fun _ _ _ h => h) (Or.inl ⟨by rfl, ?_⟩) ?_ ?_
       rotate_left
       ·intro w'
        go_simp
        with_reducible rfl
       rotate_left
       ·simp only [Act.put, la_, lb_, lc_, i64_w, i32_w]
        rfl
       refine take_ (i := 1) (N := some 21) (v := ?_) (a' := ?_) #[true, true, true, false, false, false, false, false] rfl rfl (take_ofW HT_.out HW_.out (by kernel_rfl)) (fun _ _ _ h => h) (Or.inl ⟨by rfl, ?_⟩) hHeld ?_ ?_
       rotate_left
       ·rintro w' ⟨s0, s1, s2⟩
        go_simp
        with_reducible rfl
       rotate_left
       ·simp only [Act.put, la_, lb_, lc_, i64_w, i32_w]
        rfl
       refine one_ (i := 3) (N := some 23) #[true, true, true, true, false, false, false, false] rfl rfl (one_of HT_.out (by kernel_rfl)) (by decide) (fun K hK => ?_)
       refine goes_ Try.func80 (by kernel_rfl) rfl #[.slice A260_0 (rd_L1 l0_0 x16_1).length c260_0] (by rfl) rfl rfl (by (try simp only [List.map_toArray, List.map_cons, List.map_nil]); first | done | rfl | (simp only [List.length_drop, List.length_take]; rfl)) ?_
       with_reducible refine (slices_Clone_int_int.calls _ _ (rd_L1 l0_0 x16_1) t261 _ ?side1 ?side2 A24.out).mono ?_
       (case side1 => repeat (first | exact (Kd.C_below HR260_0.out HB.out) | (with_reducible refine Kd.C_alloc ?_ _) | (with_reducible refine Kd.C_drewN ?_ _) | (with_reducible refine Kd.C_drew ?_)))
       (case side2 => exact HC260_0.out)
       rintro e w27 ⟨v262, rfl, ho0, hb⟩
       refine ⟨_, rfl, ?_⟩
       have n0_ := qm_ (Kd.S_elder' (by (with_reducible repeat (first | apply Kd.S_alloc | apply Kd.S_drewN | apply Kd.S_drew)); exact HO_260000.out) (Kd.R_base ho0) hb)
       have n1_ := qm_ (qb_ (by (with_reducible repeat (first | apply qa_ | apply qn_ | apply qd_)); exact HO_260001.out) hb)
       have n2_ := qm_ (Kd.R_elder' (by (with_reducible repeat (first | apply qa_ | apply qn_ | apply qd_)); exact HO_260002.out) (Kd.R_base ho0) hb)
       have n3_ := qm_ (ql_ (qe_ ho0 (qt_ (by (with_reducible repeat (first | apply qa_ | apply qn_ | apply qd_)); exact HO_260002.out))) (qz_ (by repeat (first | (with_reducible first | exact HB.out | apply qc_ | apply qx_ | apply qf_ | refine qg_ ?_ GE251.out | refine qg_ ?_ GE252.out | refine qg_ ?_ GE259.out) | exact HB.out))))
       have n4_ := qm_ (qs_ (g := gb251) (o := .cells #[.slice (some ad260) l0_0.length c0_0, .slice A0_1 l0_1.length c0_1, .slice A0_2 l0_2.length c0_2] 30 (0, 0)) (by first | with_reducible exact BK251.out | with_reducible exact qu_ BK251.out _ | exact BK251.out | exact qw_ BK251.out _) hb)
       have n5_ := qm_ (qs_ (g := gb252) (o := .cells #[.slice none 0 0, .slice none 0 0, .slice none 0 0] 30 (0, 0)) (by first | with_reducible exact BK252.out | with_reducible exact qu_ BK252.out _ | exact BK252.out | exact qw_ BK252.out _) hb)
       have n6_ := qm_ (qs_ (g := gb259) (o := .cells #[u260000, .slice Ao14 t253.length co14, .slice Ao13 t256.length co13] 30 (0, 0)) (by first | with_reducible exact BK259.out | with_reducible exact qu_ BK259.out _ | exact BK259.out | exact qw_ BK259.out _) hb)
       have n7_ := qm_ (qh_ (by repeat (first | (with_reducible first | exact HB.out | apply qc_ | apply qx_ | apply qf_ | refine qg_ ?_ GE251.out | refine qg_ ?_ GE252.out | refine qg_ ?_ GE259.out) | exact HB.out)) hb)
       clear HO_260000
       clear HO_260001
       clear HO_260002
       clear BK251
       clear BK252
       clear BK259
       clear HB
       have HO_260000 := n0_
       have HO_260001 := n1_
       have HO_260002 := n2_
       have HO263 := n3_
       have BK251 := n4_
       have BK252 := n5_
       have BK259 := n6_
       have HB := n7_
       clear n0_ n1_ n2_ n3_ n4_ n5_ n6_ n7_
       (try clear hb)
       (try clear hb2)
       (try clear hk)
       (try clear hi)
       (try clear ho0)
       obtain ⟨Ao29, co29, eo29⟩ := Kd.R_slice HO263.out
       (first | subst eo29 | (injection eo29 with f1_ f2_ f3_; have f4_ := f1_.symm; have f5_ := f3_.symm; clear f1_ f2_ f3_; subst f4_; subst f5_))
       refine hK.out _ _ ⟨(blk_cell BK259.out 0).trans rfl, (blk_cell BK259.out 1).trans rfl, (blk_cell BK259.out 2).trans rfl⟩ (fun hHeld => ?_)
       clear hK K
       refine norm_ (a' := ?_) ?_ ?_
       rotate_left
       ·show Act.put _ (some 23) _ = _
        simp only [Act.put, la_, lb_, lc_, i64_w, i32_w]
        rfl
       refine one_ (i := 4) (N := some 24) #[true, true, true, true, true, false, false, false] rfl rfl (one_of HT_.out (by kernel_rfl)) (by decide) (fun K hK => ?_)
       refine value_ (w1 := ?_) (v := ?_) (by rfl) rfl ?_ ?_
       rotate_left 2
       ·go_simp
        constructor
        ·rfl
        ·rfl
       refine hK.out _ _ ⟨(blk_cell (qw_ BK259.out _) 0).trans rfl, (blk_cell (qw_ BK259.out _) 1).trans rfl, (blk_cell (qw_ BK259.out _) 2).trans rfl⟩ (fun hHeld => ?_)
       clear hK K
       refine norm_ (a' := ?_) ?_ ?_
       rotate_left
       ·show Act.put _ (some 24) _ = _
        simp only [Act.put, la_, lb_, lc_, i64_w, i32_w]
        rfl
       refine one_ (i := 5) (N := some 25) #[true, true, true, true, true, true, false, false] rfl rfl (one_of HT_.out (by kernel_rfl)) (by decide) (fun K hK => ?_)
       refine Kd.S_append_step (Kd.slice 3 (Kd.int .i64)) (w0 := w) w.heap.size (by rfl) (.tmp 21) (.tmp 24) 22 24 (.slice none 0 0) 24 rfl Try.underlying22 info24 rfl (by decide) (by omega) u260000 x260000_1 t261 [.slice Ao29 t261.length co29] (fun k_ => some k_ ≠ (.slice Ao13 t256.length co13 : Value).ownBlock) (fun k_ => some k_ = (.slice Ao29 t261.length co29 : Value).ownBlock) rfl rfl ?aP (fun k_ hk_ => ((Kd.R_mono (ok' := fun k_ => ((fun k_ => some k_ ≠ (.slice Ao13 t256.length co13 : Value).ownBlock)) k_ ∧ some k_ ≠ (u260000 : Value).ownBlock) (Kd.R_apart' (HO263.out) (Kd.S_typed HO_260000.out) (by decide)) (fun k_ hk => ⟨hk.1.2, hk.2⟩))).1 k_ hk_.symm) ?aF ?aO ?aB ?aS ?aL ?_
       (case aP => exact Kd.M_row (Kd.R_mono (Kd.R_tight rfl (Kd.R_mono (ok' := fun k_ => ((fun k_ => some k_ ≠ (.slice Ao13 t256.length co13 : Value).ownBlock)) k_ ∧ some k_ ≠ (u260000 : Value).ownBlock) (Kd.R_apart' (HO263.out) (Kd.S_typed HO_260000.out) (by decide)) (fun k_ hk => ⟨hk.1.2, hk.2⟩))) (fun _ h_ => h_)))
       (case aB => exact (by repeat (first | (with_reducible first | exact HB.out | apply qc_ | apply qx_ | apply qf_ | refine qg_ ?_ GE251.out | refine qg_ ?_ GE252.out | refine qg_ ?_ GE259.out) | exact HB.out)))
       (case aF => exact (fun k_ hk => Kd.fresh' (qt_ (by (with_reducible repeat (first | apply qa_ | apply qn_ | apply qd_)); exact HO_260002.out)) k_ hk))
       (case aO => exact (by (with_reducible repeat (first | apply Kd.S_alloc | apply Kd.S_drewN | apply Kd.S_drew)); exact Kd.S_mono HO_260000.out (fun k_ hk => ⟨hk.1, fun e_ => hk.2 e_⟩)))
       (case aS => exact (qz_ (by repeat (first | (with_reducible first | exact HB.out | apply qc_ | apply qx_ | apply qf_ | refine qg_ ?_ GE251.out | refine qg_ ?_ GE252.out | refine qg_ ?_ GE259.out) | exact HB.out))))
       (case aL => have := LMc25.out; omega)
       intro v265 w28 ho hb hg hat
       rw [← Ny264.out] at ho
       have n0_ := qm_ (Kd.R_over' (by (with_reducible repeat (first | apply qa_ | apply qn_ | apply qd_)); exact HO_260001.out) (Kd.S_typed (by (with_reducible repeat (first | apply Kd.S_alloc | apply Kd.S_drewN | apply Kd.S_drew)); exact HO_260000.out)) (by decide) hg)
       have n1_ := qm_ (Kd.R_over' (by (with_reducible repeat (first | apply qa_ | apply qn_ | apply qd_)); exact HO_260002.out) (Kd.S_typed (by (with_reducible repeat (first | apply Kd.S_alloc | apply Kd.S_drewN | apply Kd.S_drew)); exact HO_260000.out)) (by decide) hg)
       have n2_ := qm_ (blk_grown (g := gb251) (o := .cells #[.slice (some ad260) l0_0.length c0_0, .slice A0_1 l0_1.length c0_1, .slice A0_2 l0_2.length c0_2] 30 (0, 0)) (by first | with_reducible exact BK251.out | with_reducible exact qu_ BK251.out _ | exact BK251.out | exact qw_ BK251.out _) hg (Kd.S_ne HO_260000.out BK251.out (by decide)))
       have n3_ := qm_ (blk_grown (g := gb252) (o := .cells #[.slice none 0 0, .slice none 0 0, .slice none 0 0] 30 (0, 0)) (by first | with_reducible exact BK252.out | with_reducible exact qu_ BK252.out _ | exact BK252.out | exact qw_ BK252.out _) hg (Kd.S_ne HO_260000.out BK252.out (by decide)))
       have n4_ := qm_ (blk_grown (g := gb259) (o := .cells #[u260000, .slice Ao14 t253.length co14, .slice Ao13 t256.length co13] 30 (0, 0)) (by first | with_reducible exact BK259.out | with_reducible exact qu_ BK259.out _ | exact BK259.out | exact qw_ BK259.out _) hg (Kd.S_ne HO_260000.out BK259.out (by decide)))
       have n5_ := qm_ (hb)
       have n6_ := qm_ (ho)
       clear HO_260001
       clear HO_260002
       clear BK251
       clear BK252
       clear BK259
       clear HB
       clear HO_260000
       clear HO263
       have HO_260001 := n0_
       have HO_260002 := n1_
       have BK251 := n2_
       have BK252 := n3_
       have BK259 := n4_
       have HB := n5_
       have HO266 := n6_
       clear n0_ n1_ n2_ n3_ n4_ n5_ n6_
       clear ho hb hg hat
       obtain ⟨Ao30, co30, eo30⟩ := Kd.S_slice HO266.out
       (first | subst eo30 | (injection eo30 with f1_ f2_ f3_; have f4_ := f1_.symm; have f5_ := f3_.symm; clear f1_ f2_ f3_; subst f4_; subst f5_))
       refine hK.out _ _ ⟨(blk_cell BK259.out 0).trans rfl, (blk_cell BK259.out 1).trans rfl, (blk_cell BK259.out 2).trans rfl⟩ (fun hHeld => ?_)
       clear hK K
       refine norm_ (a' := ?_) ?_ ?_
       rotate_left
       ·show Act.put _ (some 25) _ = _
        simp only [Act.put, la_, lb_, lc_, i64_w, i32_w]
        rfl
       refine pure_ (i := 6) (N := some 26) (v := ?_) (a' := ?_) #[true, true, true, true, true, true, true, false] rfl rfl (any_of HT_.out (by kernel_rfl)) (fun _ _ _ h => h) (Or.inl ⟨by rfl, ?_⟩) ?_ ?_
       rotate_left
       ·intro w'
        go_simp
        with_reducible rfl
       rotate_left
       ·simp only [Act.put, la_, lb_, lc_, i64_w, i32_w]
        rfl
       refine last_ (i := 7) (N := none) #[true, true, true, true, true, true, true, true] rfl rfl (one_of HT_.out (by kernel_rfl)) (by decide) (fun K hK => ?_)
       have hs31 : w28.cell? ⟨gb259, 0, none⟩ = some (u260000) := (blk_cell BK259.out 0).trans rfl
       have hfs31 := blk_frozen BK259.out 0
       have hns31_0 := NB251_259.out
       have hns31_1 := NB252_259.out
       have hms31_0 := NB259_251.out
       have hms31_1 := NB259_252.out
       refine skip_ (w1 := ?_) (by rfl) rfl ?_ ?_
       rotate_left
       ·go_simp
        rfl
       refine hK.out _ _ ?_
       clear hK K
       refine done_ (done_of HT_.out (by kernel_rfl)) ?_
       try go_wp2
       go_roundg k1
       case measure => have := HK1.out; omega
       case rel => exact ⟨(wrap64 (x16_1 + 1)), (y264), (.slice Ao30 y264.length co30), (by first | rfl | (simp; done) | (simp [*]; done)), H', ⟨by have := HK1.out; omega⟩, ⟨by (with_reducible repeat (first | apply Kd.S_alloc | apply Kd.S_drewN | apply Kd.S_drew)); exact Kd.S_mono (Kd.S_far (p := ⟨gb259, 0, none⟩) (Kd.S_types HO266.out BK259.out (by decide)) (fun _ hk => hk.2) (.slice Ao30 y264.length co30)) (fun _ hk => hk.1)⟩, ⟨by (with_reducible repeat (first | apply qa_ | apply qn_ | apply qd_)); exact Kd.R_mono (Kd.R_far (p := ⟨gb259, 0, none⟩) (Kd.R_types HO_260001.out BK259.out (by decide)) (fun _ hk => hk.2) (.slice Ao30 y264.length co30)) (fun _ hk => trivial)⟩, ⟨by (with_reducible repeat (first | apply qa_ | apply qn_ | apply qd_)); exact Kd.R_mono (Kd.R_far (p := ⟨gb259, 0, none⟩) (Kd.R_types HO_260002.out BK259.out (by decide)) (fun _ hk => hk.2) (.slice Ao30 y264.length co30)) (fun _ hk => trivial)⟩, ⟨by (with_reducible repeat (first | refine qu_ ?_ _ | refine qv_ ?_ | refine qw_ ?_ _)); refine blk_far ?_ NB251_259.out _; (with_reducible repeat (first | refine qu_ ?_ _ | refine qv_ ?_ | refine qw_ ?_ _)); exact BK251.out⟩, ⟨by (with_reducible repeat (first | refine qu_ ?_ _ | refine qv_ ?_ | refine qw_ ?_ _)); refine blk_far ?_ NB252_259.out _; (with_reducible repeat (first | refine qu_ ?_ _ | refine qv_ ?_ | refine qw_ ?_ _)); exact BK252.out⟩, ⟨by (with_reducible repeat (first | refine qu_ ?_ _ | refine qv_ ?_ | refine qw_ ?_ _)); refine blk_put (cs := #[u260000, .slice Ao14 t253.length co14, .slice Ao13 t256.length co13]) ?_ 0 _ rfl; (with_reducible repeat (first | refine qu_ ?_ _ | refine qv_ ?_ | refine qw_ ?_ _)); exact BK259.out⟩, ⟨by repeat (first | (with_reducible first | exact HB.out | apply qc_ | apply qx_ | apply qf_ | refine qg_ ?_ GE251.out | refine qg_ ?_ GE252.out | refine qg_ ?_ GE259.out) | exact HB.out)⟩⟩
      ·rw [if_neg c25] at H
       exact absurd H (by simp)
     ·rw [if_neg c23] at H
      exact absurd H (by simp)
    ·rw [if_neg c22] at H
     exact absurd H (by simp)
   ·rw [if_neg c21] at H
    have c21b0 : decide (x16_1 < (l0_0.length : Int)) = false := decide_eq_false c21
    clear c21
    simp only [Option.some.injEq, Prod.mk.injEq] at H
    obtain ⟨rfl, rfl, rfl⟩ := H
    have hnb32 := NB259_251.out
    have hnc32 := NB251_259.out
    have hnb33 := NB259_252.out
    have hnc33 := NB252_259.out
    have hcz34_0 : wr.cell? ⟨gb259, 0, none⟩ = some (u260000) := (blk_cell BK259.out 0).trans rfl
    have hcz34_1 : wr.cell? ⟨gb259, 1, none⟩ = some (.slice Ao14 t253.length co14) := (blk_cell BK259.out 1).trans rfl
    have hcz34_2 : wr.cell? ⟨gb259, 2, none⟩ = some (.slice Ao13 t256.length co13) := (blk_cell BK259.out 2).trans rfl
    have hfz34_0 := blk_frozen BK259.out 0
    have hfz34_1 := blk_frozen BK259.out 1
    have hfz34_2 := blk_frozen BK259.out 2
    obtain ⟨Ao35, co35, eo35⟩ := Kd.S_slice HO_260000.out
    subst eo35
    have hnb36 := NB252_251.out
    have hnc36 := NB251_252.out
    have hcz37_0 : wr.cell? ⟨gb252, 0, none⟩ = some (.slice none 0 0) := (blk_cell BK252.out 0).trans rfl
    have hcz37_1 : wr.cell? ⟨gb252, 1, none⟩ = some (.slice none 0 0) := (blk_cell BK252.out 1).trans rfl
    have hcz37_2 : wr.cell? ⟨gb252, 2, none⟩ = some (.slice none 0 0) := (blk_cell BK252.out 2).trans rfl
    have hfz37_0 := blk_frozen BK252.out 0
    have hfz37_1 := blk_frozen BK252.out 1
    have hfz37_2 := blk_frozen BK252.out 2
    go_wp2
    refine bodyPost_ret (results_cell_row rfl _ _ gb252 30 #[.slice Ao35 x260000_1.length co35, .slice Ao14 t253.length co14, .slice Ao13 t256.length co13] (0, 0) _ rfl (by (with_reducible repeat (first | refine qu_ ?_ _ | refine qv_ ?_ | refine qw_ ?_ _)); refine blk_put (cs := #[.slice Ao35 x260000_1.length co35, .slice Ao14 t253.length co14, .slice none 0 0]) ?_ 2 _ rfl; (with_reducible repeat (first | refine qu_ ?_ _ | refine qv_ ?_ | refine qw_ ?_ _)); refine blk_put (cs := #[.slice Ao35 x260000_1.length co35, .slice none 0 0, .slice none 0 0]) ?_ 1 _ rfl; (with_reducible repeat (first | refine qu_ ?_ _ | refine qv_ ?_ | refine qw_ ?_ _)); refine blk_put (cs := #[.slice none 0 0, .slice none 0 0, .slice none 0 0]) ?_ 0 _ rfl; (with_reducible repeat (first | refine qu_ ?_ _ | refine qv_ ?_ | refine qw_ ?_ _)); exact BK252.out) Try.underlying30 rfl (by kernel_rfl)) rfl ?_
    exact ⟨_, _, _, by first | rfl | (simp [errW_none, errW_some] <;> rfl) | (simp [*, errW_none, errW_some] <;> rfl), by (with_reducible repeat (first | apply Kd.S_alloc | apply Kd.S_drewN | apply Kd.S_drew)); exact Kd.S_mono (Kd.S_far (p := ⟨gb252, 2, none⟩) (Kd.S_far (p := ⟨gb252, 1, none⟩) (Kd.S_far (p := ⟨gb252, 0, none⟩) (Kd.S_types HO_260000.out BK252.out (by decide)) (fun _ hk => hk.2) (.slice Ao35 x260000_1.length co35)) (fun _ hk => hk.2) (.slice Ao14 t253.length co14)) (fun _ hk => hk.2) (.slice Ao13 t256.length co13)) (fun _ hk => hk.1), by (with_reducible repeat (first | apply qa_ | apply qn_ | apply qd_)); exact Kd.R_mono (Kd.R_far (p := ⟨gb252, 2, none⟩) (Kd.R_far (p := ⟨gb252, 1, none⟩) (Kd.R_far (p := ⟨gb252, 0, none⟩) (Kd.R_types HO_260001.out BK252.out (by decide)) (fun _ hk => hk.2) (.slice Ao35 x260000_1.length co35)) (fun _ hk => hk.2) (.slice Ao14 t253.length co14)) (fun _ hk => hk.2) (.slice Ao13 t256.length co13)) (fun _ hk => trivial), by (with_reducible repeat (first | apply qa_ | apply qn_ | apply qd_)); exact Kd.R_mono (Kd.R_far (p := ⟨gb252, 2, none⟩) (Kd.R_far (p := ⟨gb252, 1, none⟩) (Kd.R_far (p := ⟨gb252, 0, none⟩) (Kd.R_types HO_260002.out BK252.out (by decide)) (fun _ hk => hk.2) (.slice Ao35 x260000_1.length co35)) (fun _ hk => hk.2) (.slice Ao14 t253.length co14)) (fun _ hk => hk.2) (.slice Ao13 t256.length co13)) (fun _ hk => trivial), by repeat (first | (with_reducible first | exact HB.out | apply qc_ | apply qx_ | apply qf_ | refine qg_ ?_ GE251.out | refine qg_ ?_ GE252.out | refine qg_ ?_ GE259.out) | exact HB.out)⟩

/-! ### impl_shade: function 108 -/
def impl_shade.f (l0 : List Int) (a1 : Int) : Option (List Int) := if a1 ≥ 0 then (if 0 ≤ a1 then (if a1 < (l0.length : Int) then (if (rd l0 a1) = 0 then (some (l0.set (a1 : Int).toNat 1)) else (some l0)) else (none)) else (none)) else (some l0)
set_option maxHeartbeats 8000000 in
set_option maxRecDepth 100000 in
theorem impl_shade.calls (P0_ : Nat → Prop) (u9000_ : Value) (l0 : List Int) (a1 : Int) (r : List Int) (w0 w : World) (hB : Below w0.heap.size w0 w) (ho0 : Kd.R (Kd.int .i64) 3 w w0.heap.size P0_ u9000_ l0) (h : impl_shade.f l0 a1 = some r) :
  Calls Try.prog 108 #[u9000_, .int .i64 a1] w fun e w' => e = .returned (.tuple #[]) ∧ Kd.R (Kd.int .i64) 3 w' w0.heap.size (fun k_ => (P0_ k_ ∨ w.heap.size ≤ k_)) u9000_ r ∧ Below w0.heap.size w0 w' ∧ Kept w w' (fun k_ => P0_ k_) := by
 have HO0 := qm_ (show Kd.R (Kd.int .i64) 3 w w0.heap.size (fun k_ => (P0_ k_ ∨ w.heap.size ≤ k_)) u9000_ l0 from Kd.R_mono ho0 (fun k_ hk => (.inl hk)))
 have HK := qm_ (Kept.refl w (fun k_ => P0_ k_))
 have HW0 := qm_ hB.size
 have HB := qm_ hB
 clear hB
 have H : (if a1 ≥ 0 then (if 0 ≤ a1 then (if a1 < (l0.length : Int) then (if (rd l0 a1) = 0 then (some (l0.set (a1 : Int).toNat 1)) else (some l0)) else (none)) else (none)) else (some l0)) = some r := h
 clear h
 by_cases c3 : a1 ≥ 0
 ·rw [if_pos c3] at H
  have c3b0 : decide (0 ≤ a1) = true := decide_eq_true c3
  clear c3
  by_cases c4 : 0 ≤ a1
  ·rw [if_pos c4] at H
   have c4b0 : decide (0 ≤ a1) = true := decide_eq_true c4
   clear c4
   by_cases c5 : a1 < (l0.length : Int)
   ·rw [if_pos c5] at H
    have c5b0 : decide (a1 < (l0.length : Int)) = true := decide_eq_true c5
    clear c5
    by_cases c6 : (rd l0 a1) = 0
    ·rw [if_pos c6] at H
     have c6b0 : ((rd l0 a1) == 0) = true := beq_iff_eq.mpr c6
     have c6b1 : ((rd l0 a1) != 0) = false := bne_eq_false_iff_eq.mpr c6
     clear c6
     obtain ⟨y268, hy268⟩ : ∃ y_ : List Int, y_ = (l0.set (a1 : Int).toNat 1) := ⟨_, rfl⟩
     replace H : (some y268) = some r := by first | (rw [hy268]; with_reducible exact H) | (have H2_ := (Option.bind_some _ _).symm.trans H; rw [hy268]; with_reducible exact H2_) | (have H2_ := (Option.bind_some _ _).symm.trans H; with_reducible exact H2_) | with_reducible exact H | (rw [hy268]; exact H) | exact H
     have Ny268 := qm_ hy268
     clear hy268
     obtain rfl := Option.some.inj H
     obtain ⟨Ao8, co8, eo8⟩ := Kd.R_slice HO0.out
     subst eo8
     have p267 : 0 ≤ (a1 : Int) := of_decide_eq_true (by first | (with_reducible assumption) | assumption)
     have q267 : a1 < (l0.length : Int) := of_decide_eq_true (by first | (with_reducible assumption) | assumption)
     obtain ⟨ad267, e267, hx267_0⟩ := Kd.at_int (Kd.R_reads' HO0.out).2.2 a1 p267 q267
     cases e267
     replace p267 := eq_true p267
     replace q267 := eq_true q267
     have p7 : 0 ≤ (a1 : Int) := of_decide_eq_true (by first | (with_reducible assumption) | assumption)
     have q7 : (a1 : Int) < ((l0.length : Int) : Int) := of_decide_eq_true (by first | (with_reducible assumption) | assumption)
     obtain ⟨go7, co7, eo7, gb7, gl7, cl7, HG7⟩ := Kd.R_form HO0.out (by omega)
     (first | cases eo7 | (injection eo7 with ea_ en_ ec_; (first | subst ea_ | (injection ea_ with ea_; subst ea_)); subst ec_; clear en_))
     have GB7 := qm_ gb7
     have GG7 := qm_ HG7
     clear gb7 gl7 HG7
     have HMgo7 := qm_ (show (P0_ go7 ∨ w.heap.size ≤ go7) from (HO0.out.1 _ rfl))
     (first | simp only [add_plain] at hx267_0 | skip)
     obtain ⟨hx7_0, hf7_0⟩ := Kd.R_celln 0 HO0.out (a1 : Int) p7 q7
     replace p7 := eq_true p7
     replace q7 := eq_true q7
     have HP9 := Kd.R_putg HO0.out (a1 : Int) 1
     go_enter Try.func108, Try.ntmps108
     go_wp2_with (first | ((with_reducible refine gate_store (t := 3) (p := 15) rfl ?_); refine store_event (t := 3) (p := 15) (v := ?vo_w10) (w1 := (w.setCell ⟨go7, (a1 : Int).toNat, none⟩ (.int .i64 1))) ?hg ?ho ?hn ?hr ?_; (case ho => rfl); (case hg => rfl); (case hn => rfl); (case hr => first | (go_simp; done) | (go_simp; rfl)); intro w10 hw; have hg : w.grownBy w10 (some go7) := (by rw [hw]; exact HP9.2); have hp_ : Kd.R (Kd.int .i64) 3 w10 w0.heap.size (fun k_ => (P0_ k_ ∨ w.heap.size ≤ k_)) (.slice (some ⟨go7, 0, none⟩) l0.length co8) y268 := (by rw [hw, Ny268.out]; exact HP9.1); clear HP9; have n0_ := qm_ (hp_); have n1_ := qm_ ((by rw [hw]; exact qg_ (HB.out) GB7.out : Below w0.heap.size w0 w10)); have n2_ := qm_ (Kept.of_grown (S := (fun k_ => P0_ k_)) hg (by repeat (first | (with_reducible first | exact HK.out | apply Kept.alloc | apply Kept.drewN | apply Kept.drew) | exact HK.out)) (fun k_ e_ => (HO0.out.1 k_ e_))); clear HO0; clear HB; clear HK; have HO0 := n0_; have HB := n1_; have HK := n2_; clear n0_ n1_ n2_; clear hg hw hp_))
     first | go_end0 | ((try simp only [Exit.inBlock, Exit.then]); refine bodyPost_ret (results_none rfl _ _ _) rfl ?_)
     exact ⟨by first | rfl | (simp [errW_none, errW_some] <;> rfl) | (simp [*, errW_none, errW_some] <;> rfl), by (with_reducible repeat (first | apply qa_ | apply qn_ | apply qd_)); exact HO0.out, by repeat (first | (with_reducible first | exact HB.out | apply qc_ | apply qx_ | apply qf_) | exact HB.out), by repeat (first | (with_reducible first | exact HK.out | apply Kept.alloc | apply Kept.drewN | apply Kept.drew) | exact HK.out)⟩
    ·rw [if_neg c6] at H
     have c6b0 : ((rd l0 a1) == 0) = false := beq_eq_false_iff_ne.mpr c6
     have c6b1 : ((rd l0 a1) != 0) = true := bne_iff_ne.mpr c6
     obtain rfl := Option.some.inj H
     obtain ⟨Ao11, co11, eo11⟩ := Kd.R_slice HO0.out
     subst eo11
     have p267 : 0 ≤ (a1 : Int) := of_decide_eq_true (by first | (with_reducible assumption) | assumption)
     have q267 : a1 < (l0.length : Int) := of_decide_eq_true (by first | (with_reducible assumption) | assumption)
     obtain ⟨ad267, e267, hx267_0⟩ := Kd.at_int (Kd.R_reads' HO0.out).2.2 a1 p267 q267
     cases e267
     replace p267 := eq_true p267
     replace q267 := eq_true q267
     go_enter Try.func108, Try.ntmps108
     go_wp2
     first | go_end0 | ((try simp only [Exit.inBlock, Exit.then]); refine bodyPost_ret (results_none rfl _ _ _) rfl ?_)
     exact ⟨by first | rfl | (simp [errW_none, errW_some] <;> rfl) | (simp [*, errW_none, errW_some] <;> rfl), by (with_reducible repeat (first | apply qa_ | apply qn_ | apply qd_)); exact HO0.out, by repeat (first | (with_reducible first | exact HB.out | apply qc_ | apply qx_ | apply qf_) | exact HB.out), by repeat (first | (with_reducible first | exact HK.out | apply Kept.alloc | apply Kept.drewN | apply Kept.drew) | exact HK.out)⟩
   ·rw [if_neg c5] at H
    exact absurd H (by simp)
  ·rw [if_neg c4] at H
   exact absurd H (by simp)
 ·rw [if_neg c3] at H
  have c3b0 : decide (0 ≤ a1) = false := decide_eq_false c3
  clear c3
  obtain rfl := Option.some.inj H
  go_enter Try.func108, Try.ntmps108
  go_wp2
  first | go_end0 | ((try simp only [Exit.inBlock, Exit.then]); refine bodyPost_ret (results_none rfl _ _ _) rfl ?_)
  exact ⟨by first | rfl | (simp [errW_none, errW_some] <;> rfl) | (simp [*, errW_none, errW_some] <;> rfl), by (with_reducible repeat (first | apply qa_ | apply qn_ | apply qd_)); exact HO0.out, by repeat (first | (with_reducible first | exact HB.out | apply qc_ | apply qx_ | apply qf_) | exact HB.out), by repeat (first | (with_reducible first | exact HK.out | apply Kept.alloc | apply Kept.drewN | apply Kept.drew) | exact HK.out)⟩

end Go.Proofs.Ytkfldlniknifpaa.QFnExactStartMarking
