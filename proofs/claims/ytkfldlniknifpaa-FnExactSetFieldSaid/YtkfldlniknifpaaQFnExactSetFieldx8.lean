-- Written by a program of the session, a changed copy of the kit's print: not the kit's own print; Lean checks it.
import Derived.Test.YtkfldlniknifpaaQFnExactSetFieldx0
import Derived.Test.YtkfldlniknifpaaQFnExactSetFieldx5
import Derived.Test.YtkfldlniknifpaaQFnExactSetFieldx6
import Derived.Test.YtkfldlniknifpaaQFnExactSetFieldx7
namespace Go.Proofs.Ytkfldlniknifpaa.QFnExactSetField
open Go.RowKit Go.Proofs.YtkfldlniknifpaaW.PrintWords Go.Proofs.YtkfldlniknifpaaW.PrintLast Go.Proofs.YtkfldlniknifpaaW.PrintMore
attribute [local go_sem] max2_int min2_int max_two min_two max_three min_three max_four min_four   -- for this text's walks alone
set_option linter.unusedVariables false
set_option linter.unusedSimpArgs false

open List renaming setIfInBounds_toArray → la_, set_cons_zero → lb_, set_cons_succ → lc_
open Go.Proofs.YtkfldlniknifpaaW.PrintWords.Kd renaming R_alloc → qa_, R_drewN → qn_, R_drew → qd_, R_lower → ql_, R_lt → qt_, R_new' → qe_, R_below → qb_
open Go.Proofs.YtkfldlniknifpaaW.PrintWords renaming blk_drewN → qu_, blk_drew → qv_, blk_alloc → qw_, blk_below → qs_, below_size → qz_, below_alloc → qc_, pw_below_drewN → qx_, below_drew1 → qf_, below_set → qg_, below_step → qh_
open Go.Proofs.YtkfldlniknifpaaW.PrintWords.Aside0 renaming mk → qm_
/-! ### impl_SetField: function 33 -/
def impl_SetField.f (k : Nat) (l0_0 : List (List Int)) (l0_1 : List Bool) (l0_2 : List Int) (a1 : Int) (a2 : Int) (a3 : Int) : Option ((List (List Int)) × List Bool × List Int × Bool) := (impl_isHeap.f k l0_0 l0_1 l0_2).bind fun t270 => (if t270 = true then ((impl_Heap_hasField.f l0_0 l0_1 l0_2 a1 a2).bind fun t271 => (if t271 = true then ((impl_Heap_isRef.f l0_0 l0_1 l0_2 a3).bind fun t272 => (if t272 = true then ((impl_cloneHeap.f k l0_0 l0_1 l0_2).bind fun bt273 => (if 0 ≤ a1 then (if a1 < (bt273.1.length : Int) then (if 0 ≤ a2 then (if a2 < ((rd_L1 bt273.1 a1).length : Int) then (some ((bt273.1.set (a1 : Int).toNat ((rd_L1 bt273.1 a1).set (a2 : Int).toNat a3)), bt273.2.1, bt273.2.2, true)) else (none)) else (none)) else (none)) else (none))) else (some (([] : List (List Int)), ([] : List Bool), ([] : List Int), false)))) else (some (([] : List (List Int)), ([] : List Bool), ([] : List Int), false)))) else (some (([] : List (List Int)), ([] : List Bool), ([] : List Int), false)))
theorem impl_SetField.mono : ∀ a0 a1 a2 a3 a4 a5 k, LeO (impl_SetField.f k a0 a1 a2 a3 a4 a5) (impl_SetField.f (k + 1) a0 a1 a2 a3 a4 a5) := by
 intro a0 a1 a2 a3 a4 a5 k
 unfold impl_SetField.f
 repeat' first
   | (with_reducible exact impl_cloneHeap.mono _ _ _ _)
   | (with_reducible exact impl_isHeap.mono _ _ _ _)
   | (with_reducible exact LeO.refl _)
   | (with_reducible exact LeO.none _)
   | (with_reducible refine LeO.ite ?_ ?_)
   | (with_reducible refine LeO.bind ?_ (fun _ => ?_))
   | exact impl_cloneHeap.mono _ _ _ _
   | exact impl_isHeap.mono _ _ _ _
   | exact LeO.none _
   | refine LeO.ite ?_ ?_
   | refine LeO.bind ?_ (fun _ => ?_)
set_option maxHeartbeats 8000000 in
set_option maxRecDepth 100000 in
theorem impl_SetField.calls (k : Nat) (A0_0 : Option Addr) (c0_0 : Nat) (l0_0 : List (List Int)) (A0_1 : Option Addr) (c0_1 : Nat) (l0_1 : List Bool) (A0_2 : Option Addr) (c0_2 : Nat) (l0_2 : List Int) (a1 : Int) (a2 : Int) (a3 : Int) (r1 : List (List Int)) (r2 : List Bool) (r3 : List Int) (r4 : Bool) (w : World) (hr0_0 : Kd.C (Kd.slice 3 (Kd.int .i64)) w A0_0 l0_0.length l0_0) (hc0_0 : l0_0.length ≤ c0_0) (hr0_1 : Kd.C Kd.bool w A0_1 l0_1.length l0_1) (hc0_1 : l0_1.length ≤ c0_1) (hr0_2 : Kd.C (Kd.int .i64) w A0_2 l0_2.length l0_2) (hc0_2 : l0_2.length ≤ c0_2) (h : impl_SetField.f k l0_0 l0_1 l0_2 a1 a2 a3 = some (r1, r2, r3, r4)) :
  Calls Try.prog 33 #[.agg #[.slice A0_0 l0_0.length c0_0, .slice A0_1 l0_1.length c0_1, .slice A0_2 l0_2.length c0_2], .int .i64 a1, .int .i64 a2, .int .i64 a3] w fun e w' => ∃ v0_ v1_ v2_ : Value, e = .returned (.tuple #[.agg #[v0_, v1_, v2_], .bool r4]) ∧ Kd.S (Kd.slice 3 (Kd.int .i64)) 24 w' w.heap.size (fun k_ => some k_ ≠ (v2_ : Value).ownBlock) v0_ r1 ∧ Kd.R Kd.bool 4 w' w.heap.size (fun _ => True) v1_ r2 ∧ Kd.R (Kd.int .i64) 3 w' w.heap.size (fun _ => True) v2_ r3 ∧ Below w.heap.size w w' := by
 have hu30 := Try.underlying30
 have HR0_0 := qm_ hr0_0
 have HC0_0 := qm_ hc0_0
 clear hr0_0 hc0_0
 have HR0_1 := qm_ hr0_1
 have HC0_1 := qm_ hc0_1
 clear hr0_1 hc0_1
 have HR0_2 := qm_ hr0_2
 have HC0_2 := qm_ hc0_2
 clear hr0_2 hc0_2
 have HB := qm_ (Below.refl w.heap.size w)
 have H : ((impl_isHeap.f k l0_0 l0_1 l0_2).bind fun t270 => (if t270 = true then ((impl_Heap_hasField.f l0_0 l0_1 l0_2 a1 a2).bind fun t271 => (if t271 = true then ((impl_Heap_isRef.f l0_0 l0_1 l0_2 a3).bind fun t272 => (if t272 = true then ((impl_cloneHeap.f k l0_0 l0_1 l0_2).bind fun bt273 => (if 0 ≤ a1 then (if a1 < (bt273.1.length : Int) then (if 0 ≤ a2 then (if a2 < ((rd_L1 bt273.1 a1).length : Int) then (some ((bt273.1.set (a1 : Int).toNat ((rd_L1 bt273.1 a1).set (a2 : Int).toNat a3)), bt273.2.1, bt273.2.2, true)) else (none)) else (none)) else (none)) else (none))) else (some (([] : List (List Int)), ([] : List Bool), ([] : List Int), false)))) else (some (([] : List (List Int)), ([] : List Bool), ([] : List Int), false)))) else (some (([] : List (List Int)), ([] : List Bool), ([] : List Int), false)))) = some (r1, r2, r3, r4) := h
 clear h
 replace H := Option.bind_eq_some_iff.mp H
 obtain ⟨t270, A50, H⟩ := H
 replace H : (if t270 = true then ((impl_Heap_hasField.f l0_0 l0_1 l0_2 a1 a2).bind fun t271 => (if t271 = true then ((impl_Heap_isRef.f l0_0 l0_1 l0_2 a3).bind fun t272 => (if t272 = true then ((impl_cloneHeap.f k l0_0 l0_1 l0_2).bind fun bt273 => (if 0 ≤ a1 then (if a1 < (bt273.1.length : Int) then (if 0 ≤ a2 then (if a2 < ((rd_L1 bt273.1 a1).length : Int) then (some ((bt273.1.set (a1 : Int).toNat ((rd_L1 bt273.1 a1).set (a2 : Int).toNat a3)), bt273.2.1, bt273.2.2, true)) else (none)) else (none)) else (none)) else (none))) else (some (([] : List (List Int)), ([] : List Bool), ([] : List Int), false)))) else (some (([] : List (List Int)), ([] : List Bool), ([] : List Int), false)))) else (some (([] : List (List Int)), ([] : List Bool), ([] : List Int), false))) = some (r1, r2, r3, r4) := H
 have A5 := qm_ A50
 clear A50
 by_cases c6 : t270 = true
 ·subst c6
  have H1 : ((impl_Heap_hasField.f l0_0 l0_1 l0_2 a1 a2).bind fun t271 => (if t271 = true then ((impl_Heap_isRef.f l0_0 l0_1 l0_2 a3).bind fun t272 => (if t272 = true then ((impl_cloneHeap.f k l0_0 l0_1 l0_2).bind fun bt273 => (if 0 ≤ a1 then (if a1 < (bt273.1.length : Int) then (if 0 ≤ a2 then (if a2 < ((rd_L1 bt273.1 a1).length : Int) then (some ((bt273.1.set (a1 : Int).toNat ((rd_L1 bt273.1 a1).set (a2 : Int).toNat a3)), bt273.2.1, bt273.2.2, true)) else (none)) else (none)) else (none)) else (none))) else (some (([] : List (List Int)), ([] : List Bool), ([] : List Int), false)))) else (some (([] : List (List Int)), ([] : List Bool), ([] : List Int), false)))) = some (r1, r2, r3, r4) := by rw [if_pos rfl] at H; exact H
  clear H
  have H := H1
  clear H1
  replace H := Option.bind_eq_some_iff.mp H
  obtain ⟨t271, A70, H⟩ := H
  replace H : (if t271 = true then ((impl_Heap_isRef.f l0_0 l0_1 l0_2 a3).bind fun t272 => (if t272 = true then ((impl_cloneHeap.f k l0_0 l0_1 l0_2).bind fun bt273 => (if 0 ≤ a1 then (if a1 < (bt273.1.length : Int) then (if 0 ≤ a2 then (if a2 < ((rd_L1 bt273.1 a1).length : Int) then (some ((bt273.1.set (a1 : Int).toNat ((rd_L1 bt273.1 a1).set (a2 : Int).toNat a3)), bt273.2.1, bt273.2.2, true)) else (none)) else (none)) else (none)) else (none))) else (some (([] : List (List Int)), ([] : List Bool), ([] : List Int), false)))) else (some (([] : List (List Int)), ([] : List Bool), ([] : List Int), false))) = some (r1, r2, r3, r4) := H
  have A7 := qm_ A70
  clear A70
  by_cases c8 : t271 = true
  ·subst c8
   have H1 : ((impl_Heap_isRef.f l0_0 l0_1 l0_2 a3).bind fun t272 => (if t272 = true then ((impl_cloneHeap.f k l0_0 l0_1 l0_2).bind fun bt273 => (if 0 ≤ a1 then (if a1 < (bt273.1.length : Int) then (if 0 ≤ a2 then (if a2 < ((rd_L1 bt273.1 a1).length : Int) then (some ((bt273.1.set (a1 : Int).toNat ((rd_L1 bt273.1 a1).set (a2 : Int).toNat a3)), bt273.2.1, bt273.2.2, true)) else (none)) else (none)) else (none)) else (none))) else (some (([] : List (List Int)), ([] : List Bool), ([] : List Int), false)))) = some (r1, r2, r3, r4) := by rw [if_pos rfl] at H; exact H
   clear H
   have H := H1
   clear H1
   replace H := Option.bind_eq_some_iff.mp H
   obtain ⟨t272, A90, H⟩ := H
   replace H : (if t272 = true then ((impl_cloneHeap.f k l0_0 l0_1 l0_2).bind fun bt273 => (if 0 ≤ a1 then (if a1 < (bt273.1.length : Int) then (if 0 ≤ a2 then (if a2 < ((rd_L1 bt273.1 a1).length : Int) then (some ((bt273.1.set (a1 : Int).toNat ((rd_L1 bt273.1 a1).set (a2 : Int).toNat a3)), bt273.2.1, bt273.2.2, true)) else (none)) else (none)) else (none)) else (none))) else (some (([] : List (List Int)), ([] : List Bool), ([] : List Int), false))) = some (r1, r2, r3, r4) := H
   have A9 := qm_ A90
   clear A90
   by_cases c10 : t272 = true
   ·subst c10
    have H1 : ((impl_cloneHeap.f k l0_0 l0_1 l0_2).bind fun bt273 => (if 0 ≤ a1 then (if a1 < (bt273.1.length : Int) then (if 0 ≤ a2 then (if a2 < ((rd_L1 bt273.1 a1).length : Int) then (some ((bt273.1.set (a1 : Int).toNat ((rd_L1 bt273.1 a1).set (a2 : Int).toNat a3)), bt273.2.1, bt273.2.2, true)) else (none)) else (none)) else (none)) else (none))) = some (r1, r2, r3, r4) := by rw [if_pos rfl] at H; exact H
    clear H
    have H := H1
    clear H1
    replace H := Option.bind_eq_some_iff.mp H
    obtain ⟨⟨t273, t276, t279⟩, A110, H⟩ := H
    replace H : (if 0 ≤ a1 then (if a1 < (t273.length : Int) then (if 0 ≤ a2 then (if a2 < ((rd_L1 t273 a1).length : Int) then (some ((t273.set (a1 : Int).toNat ((rd_L1 t273 a1).set (a2 : Int).toNat a3)), t276, t279, true)) else (none)) else (none)) else (none)) else (none)) = some (r1, r2, r3, r4) := H
    have A11 := qm_ A110
    clear A110
    by_cases c12 : 0 ≤ a1
    ·rw [if_pos c12] at H
     have c12b0 : decide (0 ≤ a1) = true := decide_eq_true c12
     clear c12
     by_cases c13 : a1 < (t273.length : Int)
     ·rw [if_pos c13] at H
      have c13b0 : decide (a1 < (t273.length : Int)) = true := decide_eq_true c13
      clear c13
      by_cases c14 : 0 ≤ a2
      ·rw [if_pos c14] at H
       have c14b0 : decide (0 ≤ a2) = true := decide_eq_true c14
       clear c14
       by_cases c15 : a2 < ((rd_L1 t273 a1).length : Int)
       ·rw [if_pos c15] at H
        have c15b0 : decide (a2 < ((rd_L1 t273 a1).length : Int)) = true := decide_eq_true c15
        clear c15
        obtain ⟨y284, hy284⟩ : ∃ y_ : List Int, y_ = ((rd_L1 t273 a1).set (a2 : Int).toNat a3) := ⟨_, rfl⟩
        replace H : (some ((t273.set (a1 : Int).toNat y284), t276, t279, true)) = some (r1, r2, r3, r4) := by first | (rw [hy284]; with_reducible exact H) | (have H2_ := (Option.bind_some _ _).symm.trans H; rw [hy284]; with_reducible exact H2_) | (have H2_ := (Option.bind_some _ _).symm.trans H; with_reducible exact H2_) | with_reducible exact H | (rw [hy284]; exact H) | exact H
        have Ny284 := qm_ hy284
        clear hy284
        obtain ⟨y286, hy286⟩ : ∃ y_ : List (List Int), y_ = (t273.set (a1 : Int).toNat y284) := ⟨_, rfl⟩
        replace H : (some (y286, t276, t279, true)) = some (r1, r2, r3, r4) := by first | (rw [hy286]; with_reducible exact H) | (have H2_ := (Option.bind_some _ _).symm.trans H; rw [hy286]; with_reducible exact H2_) | (have H2_ := (Option.bind_some _ _).symm.trans H; with_reducible exact H2_) | with_reducible exact H | (rw [hy286]; exact H) | exact H
        have Ny286 := qm_ hy286
        clear hy286
        simp only [Option.some.injEq, Prod.mk.injEq] at H
        obtain ⟨rfl, rfl, rfl, rfl⟩ := H
        go_enter Try.func33, Try.ntmps33
        go_wp2_with (first | ((with_reducible refine gate_dst (N := 4) rfl ?_); refine box_event ?hg (N := 4) ?hd (cs := #[.slice A0_0 l0_0.length c0_0, .slice A0_1 l0_1.length c0_1, .slice A0_2 l0_2.length c0_2]) (t := 30) ?hr ?_; (case hd => rfl); (case hg => rfl); (case hr => first | (go_simp; done) | (go_simp; rfl)); intro gb268 hg w17 hbox hb; have n0_ := qm_ (qh_ (by repeat (first | (with_reducible first | exact HB.out | apply qc_ | apply qx_ | apply qf_) | exact HB.out)) hb); have n1_ := qm_ (hbox); have n2_ := qm_ ((by rw [hg]; exact (qz_ (by repeat (first | (with_reducible first | exact HB.out | apply qc_ | apply qx_ | apply qf_) | exact HB.out))) : w.heap.size ≤ gb268)); have n3_ := qm_ ((by rw [hg]; exact (qz_ (by repeat (first | (with_reducible first | exact HB.out | apply qc_ | apply qx_ | apply qf_) | exact HB.out))) : w.heap.size ≤ gb268)); clear HB; have HB := n0_; have BK268 := n1_; have GW268 := n2_; have GE268 := n3_; clear n0_ n1_ n2_ n3_; clear hb hbox hg) | ((with_reducible refine gate_dst (N := 8) rfl ?_); refine box_event ?hg (N := 8) ?hd (cs := #[.slice none 0 0, .slice none 0 0, .slice none 0 0]) (t := 30) ?hr ?_; (case hd => rfl); (case hg => rfl); (case hr => first | (go_simp; done) | (go_simp; rfl)); intro gb269 hg w18 hbox hb; have n0_ := qm_ (qs_ (g := gb268) (o := .cells #[.slice A0_0 l0_0.length c0_0, .slice A0_1 l0_1.length c0_1, .slice A0_2 l0_2.length c0_2] 30 (0, 0)) (by first | with_reducible exact BK268.out | with_reducible exact qu_ BK268.out _ | exact BK268.out | exact qw_ BK268.out _) hb); have n1_ := qm_ (qh_ (by repeat (first | (with_reducible first | exact HB.out | apply qc_ | apply qx_ | apply qf_ | refine qg_ ?_ GE268.out) | exact HB.out)) hb); have n2_ := qm_ (hbox); have n3_ := qm_ ((by rw [hg]; exact (qz_ (by repeat (first | (with_reducible first | exact HB.out | apply qc_ | apply qx_ | apply qf_ | refine qg_ ?_ GE268.out) | exact HB.out))) : w.heap.size ≤ gb269)); have n4_ := qm_ ((by rw [hg]; exact (qz_ (by repeat (first | (with_reducible first | exact HB.out | apply qc_ | apply qx_ | apply qf_ | refine qg_ ?_ GE268.out) | exact HB.out))) : w.heap.size ≤ gb269)); have n5_ := qm_ ((by rw [hg]; exact Nat.ne_of_lt (blk_lt (g := gb268) (o := .cells #[.slice A0_0 l0_0.length c0_0, .slice A0_1 l0_1.length c0_1, .slice A0_2 l0_2.length c0_2] 30 (0, 0)) (by first | with_reducible exact BK268.out | with_reducible exact qu_ BK268.out _ | exact BK268.out | exact qw_ BK268.out _)) : gb268 ≠ gb269)); have n6_ := qm_ ((by rw [hg]; exact Nat.ne_of_gt (blk_lt (g := gb268) (o := .cells #[.slice A0_0 l0_0.length c0_0, .slice A0_1 l0_1.length c0_1, .slice A0_2 l0_2.length c0_2] 30 (0, 0)) (by first | with_reducible exact BK268.out | with_reducible exact qu_ BK268.out _ | exact BK268.out | exact qw_ BK268.out _)) : gb269 ≠ gb268)); clear BK268; clear HB; have BK268 := n0_; have HB := n1_; have BK269 := n2_; have GW269 := n3_; have GE269 := n4_; have NB268_269 := n5_; have NB269_268 := n6_; clear n0_ n1_ n2_ n3_ n4_ n5_ n6_; clear hb hbox hg; have hnb19 := NB268_269.out; have hnc19 := NB269_268.out; have hcz20_0 : w18.cell? ⟨gb268, 0, none⟩ = some (.slice A0_0 l0_0.length c0_0) := (blk_cell BK268.out 0).trans rfl; have hcz20_1 : w18.cell? ⟨gb268, 1, none⟩ = some (.slice A0_1 l0_1.length c0_1) := (blk_cell BK268.out 1).trans rfl; have hcz20_2 : w18.cell? ⟨gb268, 2, none⟩ = some (.slice A0_2 l0_2.length c0_2) := (blk_cell BK268.out 2).trans rfl; have hfz20_0 := blk_frozen BK268.out 0; have hfz20_1 := blk_frozen BK268.out 1; have hfz20_2 := blk_frozen BK268.out 2) | ((with_reducible refine gate_callee (f := 71) rfl ?_); refine goesL_ (some 12) rfl rfl Try.func71 (by kernel_rfl) rfl #[.agg #[.slice A0_0 l0_0.length c0_0, .slice A0_1 l0_1.length c0_1, .slice A0_2 l0_2.length c0_2]] rfl (by (try simp only [List.map_toArray, List.map_cons, List.map_nil]); first | done | rfl | (simp only [List.length_drop, List.length_take]; rfl)) ?_; (with_reducible refine (impl_isHeap.calls k _ _ l0_0 _ _ l0_1 _ _ l0_2 true _ ?side1 ?side2 ?side3 ?side4 ?side5 ?side6 A5.out).mono ?_); (case side1 => repeat (first | exact (Kd.C_below HR0_0.out HB.out) | (with_reducible refine Kd.C_alloc ?_ _) | (with_reducible refine Kd.C_drewN ?_ _) | (with_reducible refine Kd.C_drew ?_))); (case side2 => exact HC0_0.out); (case side3 => repeat (first | exact (Kd.C_below HR0_1.out HB.out) | (with_reducible refine Kd.C_alloc ?_ _) | (with_reducible refine Kd.C_drewN ?_ _) | (with_reducible refine Kd.C_drew ?_))); (case side4 => exact HC0_1.out); (case side5 => repeat (first | exact (Kd.C_below HR0_2.out HB.out) | (with_reducible refine Kd.C_alloc ?_ _) | (with_reducible refine Kd.C_drewN ?_ _) | (with_reducible refine Kd.C_drew ?_))); (case side6 => exact HC0_2.out); rintro e w21 ⟨rfl, hb⟩; refine ⟨_, rfl, ?_⟩; have n0_ := qm_ (qs_ (g := gb268) (o := .cells #[.slice A0_0 l0_0.length c0_0, .slice A0_1 l0_1.length c0_1, .slice A0_2 l0_2.length c0_2] 30 (0, 0)) (by first | with_reducible exact BK268.out | with_reducible exact qu_ BK268.out _ | exact BK268.out | exact qw_ BK268.out _) hb); have n1_ := qm_ (qs_ (g := gb269) (o := .cells #[.slice none 0 0, .slice none 0 0, .slice none 0 0] 30 (0, 0)) (by first | with_reducible exact BK269.out | with_reducible exact qu_ BK269.out _ | exact BK269.out | exact qw_ BK269.out _) hb); have n2_ := qm_ (qh_ (by repeat (first | (with_reducible first | exact HB.out | apply qc_ | apply qx_ | apply qf_ | refine qg_ ?_ GE268.out | refine qg_ ?_ GE269.out) | exact HB.out)) hb); clear BK268; clear BK269; clear HB; have BK268 := n0_; have BK269 := n1_; have HB := n2_; clear n0_ n1_ n2_; (try clear hb); (try clear hb2); (try clear hk); (try clear hi); have hcz22_0 : w21.cell? ⟨gb268, 0, none⟩ = some (.slice A0_0 l0_0.length c0_0) := (blk_cell BK268.out 0).trans rfl; have hcz22_1 : w21.cell? ⟨gb268, 1, none⟩ = some (.slice A0_1 l0_1.length c0_1) := (blk_cell BK268.out 1).trans rfl; have hcz22_2 : w21.cell? ⟨gb268, 2, none⟩ = some (.slice A0_2 l0_2.length c0_2) := (blk_cell BK268.out 2).trans rfl; have hfz22_0 := blk_frozen BK268.out 0; have hfz22_1 := blk_frozen BK268.out 1; have hfz22_2 := blk_frozen BK268.out 2) | (go_at_call 72; (with_reducible refine (impl_Heap_hasField.calls _ _ l0_0 _ _ l0_1 _ _ l0_2 a1 a2 true _ ?side1 ?side2 ?side3 ?side4 ?side5 ?side6 A7.out).mono ?_); (case side1 => repeat (first | exact (Kd.C_below HR0_0.out HB.out) | (with_reducible refine Kd.C_alloc ?_ _) | (with_reducible refine Kd.C_drewN ?_ _) | (with_reducible refine Kd.C_drew ?_))); (case side2 => exact HC0_0.out); (case side3 => repeat (first | exact (Kd.C_below HR0_1.out HB.out) | (with_reducible refine Kd.C_alloc ?_ _) | (with_reducible refine Kd.C_drewN ?_ _) | (with_reducible refine Kd.C_drew ?_))); (case side4 => exact HC0_1.out); (case side5 => repeat (first | exact (Kd.C_below HR0_2.out HB.out) | (with_reducible refine Kd.C_alloc ?_ _) | (with_reducible refine Kd.C_drewN ?_ _) | (with_reducible refine Kd.C_drew ?_))); (case side6 => exact HC0_2.out); rintro e w23 ⟨rfl, hb⟩; have n0_ := qm_ (qs_ (g := gb268) (o := .cells #[.slice A0_0 l0_0.length c0_0, .slice A0_1 l0_1.length c0_1, .slice A0_2 l0_2.length c0_2] 30 (0, 0)) (by first | with_reducible exact BK268.out | with_reducible exact qu_ BK268.out _ | exact BK268.out | exact qw_ BK268.out _) hb); have n1_ := qm_ (qs_ (g := gb269) (o := .cells #[.slice none 0 0, .slice none 0 0, .slice none 0 0] 30 (0, 0)) (by first | with_reducible exact BK269.out | with_reducible exact qu_ BK269.out _ | exact BK269.out | exact qw_ BK269.out _) hb); have n2_ := qm_ (qh_ (by repeat (first | (with_reducible first | exact HB.out | apply qc_ | apply qx_ | apply qf_ | refine qg_ ?_ GE268.out | refine qg_ ?_ GE269.out) | exact HB.out)) hb); clear BK268; clear BK269; clear HB; have BK268 := n0_; have BK269 := n1_; have HB := n2_; clear n0_ n1_ n2_; (try clear hb); (try clear hb2); (try clear hk); (try clear hi); have hcz24_0 : w23.cell? ⟨gb268, 0, none⟩ = some (.slice A0_0 l0_0.length c0_0) := (blk_cell BK268.out 0).trans rfl; have hcz24_1 : w23.cell? ⟨gb268, 1, none⟩ = some (.slice A0_1 l0_1.length c0_1) := (blk_cell BK268.out 1).trans rfl; have hcz24_2 : w23.cell? ⟨gb268, 2, none⟩ = some (.slice A0_2 l0_2.length c0_2) := (blk_cell BK268.out 2).trans rfl; have hfz24_0 := blk_frozen BK268.out 0; have hfz24_1 := blk_frozen BK268.out 1; have hfz24_2 := blk_frozen BK268.out 2) | (go_at_call 73; (with_reducible refine (impl_Heap_isRef.calls _ _ l0_0 _ _ l0_1 _ _ l0_2 a3 true _ ?side1 ?side2 ?side3 ?side4 ?side5 ?side6 A9.out).mono ?_); (case side1 => repeat (first | exact (Kd.C_below HR0_0.out HB.out) | (with_reducible refine Kd.C_alloc ?_ _) | (with_reducible refine Kd.C_drewN ?_ _) | (with_reducible refine Kd.C_drew ?_))); (case side2 => exact HC0_0.out); (case side3 => repeat (first | exact (Kd.C_below HR0_1.out HB.out) | (with_reducible refine Kd.C_alloc ?_ _) | (with_reducible refine Kd.C_drewN ?_ _) | (with_reducible refine Kd.C_drew ?_))); (case side4 => exact HC0_1.out); (case side5 => repeat (first | exact (Kd.C_below HR0_2.out HB.out) | (with_reducible refine Kd.C_alloc ?_ _) | (with_reducible refine Kd.C_drewN ?_ _) | (with_reducible refine Kd.C_drew ?_))); (case side6 => exact HC0_2.out); rintro e w25 ⟨rfl, hb⟩; have n0_ := qm_ (qs_ (g := gb268) (o := .cells #[.slice A0_0 l0_0.length c0_0, .slice A0_1 l0_1.length c0_1, .slice A0_2 l0_2.length c0_2] 30 (0, 0)) (by first | with_reducible exact BK268.out | with_reducible exact qu_ BK268.out _ | exact BK268.out | exact qw_ BK268.out _) hb); have n1_ := qm_ (qs_ (g := gb269) (o := .cells #[.slice none 0 0, .slice none 0 0, .slice none 0 0] 30 (0, 0)) (by first | with_reducible exact BK269.out | with_reducible exact qu_ BK269.out _ | exact BK269.out | exact qw_ BK269.out _) hb); have n2_ := qm_ (qh_ (by repeat (first | (with_reducible first | exact HB.out | apply qc_ | apply qx_ | apply qf_ | refine qg_ ?_ GE268.out | refine qg_ ?_ GE269.out) | exact HB.out)) hb); clear BK268; clear BK269; clear HB; have BK268 := n0_; have BK269 := n1_; have HB := n2_; clear n0_ n1_ n2_; (try clear hb); (try clear hb2); (try clear hk); (try clear hi); have hcz26_0 : w25.cell? ⟨gb268, 0, none⟩ = some (.slice A0_0 l0_0.length c0_0) := (blk_cell BK268.out 0).trans rfl; have hcz26_1 : w25.cell? ⟨gb268, 1, none⟩ = some (.slice A0_1 l0_1.length c0_1) := (blk_cell BK268.out 1).trans rfl; have hcz26_2 : w25.cell? ⟨gb268, 2, none⟩ = some (.slice A0_2 l0_2.length c0_2) := (blk_cell BK268.out 2).trans rfl; have hfz26_0 := blk_frozen BK268.out 0; have hfz26_1 := blk_frozen BK268.out 1; have hfz26_2 := blk_frozen BK268.out 2) | ((with_reducible refine gate_callee (f := 74) rfl ?_); refine goesL_ (some 29) rfl rfl Try.func74 (by kernel_rfl) rfl #[.agg #[.slice A0_0 l0_0.length c0_0, .slice A0_1 l0_1.length c0_1, .slice A0_2 l0_2.length c0_2]] rfl (by (try simp only [List.map_toArray, List.map_cons, List.map_nil]); first | done | rfl | (simp only [List.length_drop, List.length_take]; rfl)) ?_; (with_reducible refine (impl_cloneHeap.calls k _ _ l0_0 _ _ l0_1 _ _ l0_2 t273 t276 t279 _ ?side1 ?side2 ?side3 ?side4 ?side5 ?side6 A11.out).mono ?_); (case side1 => repeat (first | exact (Kd.C_below HR0_0.out HB.out) | (with_reducible refine Kd.C_alloc ?_ _) | (with_reducible refine Kd.C_drewN ?_ _) | (with_reducible refine Kd.C_drew ?_))); (case side2 => exact HC0_0.out); (case side3 => repeat (first | exact (Kd.C_below HR0_1.out HB.out) | (with_reducible refine Kd.C_alloc ?_ _) | (with_reducible refine Kd.C_drewN ?_ _) | (with_reducible refine Kd.C_drew ?_))); (case side4 => exact HC0_1.out); (case side5 => repeat (first | exact (Kd.C_below HR0_2.out HB.out) | (with_reducible refine Kd.C_alloc ?_ _) | (with_reducible refine Kd.C_drewN ?_ _) | (with_reducible refine Kd.C_drew ?_))); (case side6 => exact HC0_2.out); rintro e w27 ⟨v274, v277, v280, rfl, ho0, ho1, ho2, hb⟩; refine ⟨_, rfl, ?_⟩; have n0_ := qm_ (Kd.S_lower ho0 (qz_ (by repeat (first | (with_reducible first | exact HB.out | apply qc_ | apply qx_ | apply qf_ | refine qg_ ?_ GE268.out | refine qg_ ?_ GE269.out) | exact HB.out)))); have n1_ := qm_ (ql_ ho1 (qz_ (by repeat (first | (with_reducible first | exact HB.out | apply qc_ | apply qx_ | apply qf_ | refine qg_ ?_ GE268.out | refine qg_ ?_ GE269.out) | exact HB.out)))); have n2_ := qm_ (ql_ ho2 (qz_ (by repeat (first | (with_reducible first | exact HB.out | apply qc_ | apply qx_ | apply qf_ | refine qg_ ?_ GE268.out | refine qg_ ?_ GE269.out) | exact HB.out)))); have n3_ := qm_ (qs_ (g := gb268) (o := .cells #[.slice A0_0 l0_0.length c0_0, .slice A0_1 l0_1.length c0_1, .slice A0_2 l0_2.length c0_2] 30 (0, 0)) (by first | with_reducible exact BK268.out | with_reducible exact qu_ BK268.out _ | exact BK268.out | exact qw_ BK268.out _) hb); have n4_ := qm_ (qs_ (g := gb269) (o := .cells #[.slice none 0 0, .slice none 0 0, .slice none 0 0] 30 (0, 0)) (by first | with_reducible exact BK269.out | with_reducible exact qu_ BK269.out _ | exact BK269.out | exact qw_ BK269.out _) hb); have n5_ := qm_ (qh_ (by repeat (first | (with_reducible first | exact HB.out | apply qc_ | apply qx_ | apply qf_ | refine qg_ ?_ GE268.out | refine qg_ ?_ GE269.out) | exact HB.out)) hb); clear BK268; clear BK269; clear HB; have HO275 := n0_; have HO278 := n1_; have HO281 := n2_; have BK268 := n3_; have BK269 := n4_; have HB := n5_; clear n0_ n1_ n2_ n3_ n4_ n5_; (try clear hb); (try clear hb2); (try clear hk); (try clear hi); (try clear ho0); (try clear ho1); (try clear ho2)) | ((with_reducible refine gate_dst (N := 10) rfl ?_); refine box_event ?hg (N := 10) ?hd (cs := #[.slice none 0 0, .slice none 0 0, .slice none 0 0]) (t := 30) ?hr ?_; (case hd => rfl); (case hg => rfl); (case hr => first | (go_simp; done) | (go_simp; rfl)); intro gb282 hg w28 hbox hb; have n0_ := qm_ (Kd.S_below (by (with_reducible repeat (first | apply Kd.S_alloc | apply Kd.S_drewN | apply Kd.S_drew)); exact HO275.out) hb); have n1_ := qm_ (qb_ (by (with_reducible repeat (first | apply qa_ | apply qn_ | apply qd_)); exact HO278.out) hb); have n2_ := qm_ (qb_ (by (with_reducible repeat (first | apply qa_ | apply qn_ | apply qd_)); exact HO281.out) hb); have n3_ := qm_ (qs_ (g := gb268) (o := .cells #[.slice A0_0 l0_0.length c0_0, .slice A0_1 l0_1.length c0_1, .slice A0_2 l0_2.length c0_2] 30 (0, 0)) (by first | with_reducible exact BK268.out | with_reducible exact qu_ BK268.out _ | exact BK268.out | exact qw_ BK268.out _) hb); have n4_ := qm_ (qs_ (g := gb269) (o := .cells #[.slice none 0 0, .slice none 0 0, .slice none 0 0] 30 (0, 0)) (by first | with_reducible exact BK269.out | with_reducible exact qu_ BK269.out _ | exact BK269.out | exact qw_ BK269.out _) hb); have n5_ := qm_ (qh_ (by repeat (first | (with_reducible first | exact HB.out | apply qc_ | apply qx_ | apply qf_ | refine qg_ ?_ GE268.out | refine qg_ ?_ GE269.out) | exact HB.out)) hb); have n6_ := qm_ (hbox); have n7_ := qm_ ((by rw [hg]; exact (qz_ (by repeat (first | (with_reducible first | exact HB.out | apply qc_ | apply qx_ | apply qf_ | refine qg_ ?_ GE268.out | refine qg_ ?_ GE269.out) | exact HB.out))) : w.heap.size ≤ gb282)); have n8_ := qm_ ((by rw [hg]; exact (qz_ (by repeat (first | (with_reducible first | exact HB.out | apply qc_ | apply qx_ | apply qf_ | refine qg_ ?_ GE268.out | refine qg_ ?_ GE269.out) | exact HB.out))) : w.heap.size ≤ gb282)); have n9_ := qm_ ((by rw [hg]; exact Nat.ne_of_lt (blk_lt (g := gb268) (o := .cells #[.slice A0_0 l0_0.length c0_0, .slice A0_1 l0_1.length c0_1, .slice A0_2 l0_2.length c0_2] 30 (0, 0)) (by first | with_reducible exact BK268.out | with_reducible exact qu_ BK268.out _ | exact BK268.out | exact qw_ BK268.out _)) : gb268 ≠ gb282)); have n10_ := qm_ ((by rw [hg]; exact Nat.ne_of_gt (blk_lt (g := gb268) (o := .cells #[.slice A0_0 l0_0.length c0_0, .slice A0_1 l0_1.length c0_1, .slice A0_2 l0_2.length c0_2] 30 (0, 0)) (by first | with_reducible exact BK268.out | with_reducible exact qu_ BK268.out _ | exact BK268.out | exact qw_ BK268.out _)) : gb282 ≠ gb268)); have n11_ := qm_ ((by rw [hg]; exact Nat.ne_of_lt (blk_lt (g := gb269) (o := .cells #[.slice none 0 0, .slice none 0 0, .slice none 0 0] 30 (0, 0)) (by first | with_reducible exact BK269.out | with_reducible exact qu_ BK269.out _ | exact BK269.out | exact qw_ BK269.out _)) : gb269 ≠ gb282)); have n12_ := qm_ ((by rw [hg]; exact Nat.ne_of_gt (blk_lt (g := gb269) (o := .cells #[.slice none 0 0, .slice none 0 0, .slice none 0 0] 30 (0, 0)) (by first | with_reducible exact BK269.out | with_reducible exact qu_ BK269.out _ | exact BK269.out | exact qw_ BK269.out _)) : gb282 ≠ gb269)); clear HO275; clear HO278; clear HO281; clear BK268; clear BK269; clear HB; have HO275 := n0_; have HO278 := n1_; have HO281 := n2_; have BK268 := n3_; have BK269 := n4_; have HB := n5_; have BK282 := n6_; have GW282 := n7_; have GE282 := n8_; have NB268_282 := n9_; have NB282_268 := n10_; have NB269_282 := n11_; have NB282_269 := n12_; clear n0_ n1_ n2_ n3_ n4_ n5_ n6_ n7_ n8_ n9_ n10_ n11_ n12_; clear hb hbox hg; obtain ⟨Ao29, co29, eo29⟩ := Kd.S_slice HO275.out; subst eo29; have hnb30 := NB282_268.out; have hnc30 := NB268_282.out; have hnb31 := NB282_269.out; have hnc31 := NB269_282.out; have hcz32_0 : w28.cell? ⟨gb282, 0, none⟩ = some (.slice none 0 0) := (blk_cell BK282.out 0).trans rfl; have hcz32_1 : w28.cell? ⟨gb282, 1, none⟩ = some (.slice none 0 0) := (blk_cell BK282.out 1).trans rfl; have hcz32_2 : w28.cell? ⟨gb282, 2, none⟩ = some (.slice none 0 0) := (blk_cell BK282.out 2).trans rfl; have hfz32_0 := blk_frozen BK282.out 0; have hfz32_1 := blk_frozen BK282.out 1; have hfz32_2 := blk_frozen BK282.out 2; obtain ⟨Ao33, co33, eo33⟩ := Kd.R_slice HO278.out; subst eo33; obtain ⟨Ao34, co34, eo34⟩ := Kd.R_slice HO281.out; subst eo34) | ((with_reducible refine gate_store (t := 30) (p := 10) rfl ?_); refine store_event (t := 30) (p := 10) (v := ?vo_w35) (w1 := (((w28.setCell ⟨gb282, 0, none⟩ (.slice Ao29 t273.length co29)).setCell ⟨gb282, 1, none⟩ (.slice Ao33 t276.length co33)).setCell ⟨gb282, 2, none⟩ (.slice Ao34 t279.length co34))) ?hg ?ho ?hn ?hr ?_; (case ho => rfl); (case hg => rfl); (case hn => rfl); (case hr => first | (go_simp; done) | (go_simp; rfl)); intro w35 hw; have n0_ : Aside0 (Kd.S (Kd.slice 3 (Kd.int .i64)) 24 w35 w.heap.size (fun k_ => some k_ ≠ (.slice Ao34 t279.length co34 : Value).ownBlock) (.slice Ao29 t273.length co29) t273) := ⟨(by rw [hw]; exact (by (with_reducible repeat (first | apply Kd.S_alloc | apply Kd.S_drewN | apply Kd.S_drew)); exact Kd.S_mono (Kd.S_far (p := ⟨gb282, 2, none⟩) (Kd.S_far (p := ⟨gb282, 1, none⟩) (Kd.S_far (p := ⟨gb282, 0, none⟩) (Kd.S_types HO275.out BK282.out (by decide)) (fun _ hk => hk.2) (.slice Ao29 t273.length co29)) (fun _ hk => hk.2) (.slice Ao33 t276.length co33)) (fun _ hk => hk.2) (.slice Ao34 t279.length co34)) (fun _ hk => hk.1)))⟩; have n1_ : Aside0 (Kd.R Kd.bool 4 w35 w.heap.size (fun _ => True) (.slice Ao33 t276.length co33) t276) := ⟨(by rw [hw]; exact (by (with_reducible repeat (first | apply qa_ | apply qn_ | apply qd_)); exact Kd.R_mono (Kd.R_far (p := ⟨gb282, 2, none⟩) (Kd.R_far (p := ⟨gb282, 1, none⟩) (Kd.R_far (p := ⟨gb282, 0, none⟩) (Kd.R_types HO278.out BK282.out (by decide)) (fun _ hk => hk.2) (.slice Ao29 t273.length co29)) (fun _ hk => hk.2) (.slice Ao33 t276.length co33)) (fun _ hk => hk.2) (.slice Ao34 t279.length co34)) (fun _ hk => trivial)))⟩; have n2_ : Aside0 (Kd.R (Kd.int .i64) 3 w35 w.heap.size (fun _ => True) (.slice Ao34 t279.length co34) t279) := ⟨(by rw [hw]; exact (by (with_reducible repeat (first | apply qa_ | apply qn_ | apply qd_)); exact Kd.R_mono (Kd.R_far (p := ⟨gb282, 2, none⟩) (Kd.R_far (p := ⟨gb282, 1, none⟩) (Kd.R_far (p := ⟨gb282, 0, none⟩) (Kd.R_types HO281.out BK282.out (by decide)) (fun _ hk => hk.2) (.slice Ao29 t273.length co29)) (fun _ hk => hk.2) (.slice Ao33 t276.length co33)) (fun _ hk => hk.2) (.slice Ao34 t279.length co34)) (fun _ hk => trivial)))⟩; have n3_ : Aside0 (w35.heap[gb268]? = some (.cells #[.slice A0_0 l0_0.length c0_0, .slice A0_1 l0_1.length c0_1, .slice A0_2 l0_2.length c0_2] 30 (0, 0))) := ⟨(by rw [hw]; exact (by (with_reducible repeat (first | refine qu_ ?_ _ | refine qv_ ?_ | refine qw_ ?_ _)); refine blk_far ?_ NB268_282.out _; (with_reducible repeat (first | refine qu_ ?_ _ | refine qv_ ?_ | refine qw_ ?_ _)); refine blk_far ?_ NB268_282.out _; (with_reducible repeat (first | refine qu_ ?_ _ | refine qv_ ?_ | refine qw_ ?_ _)); refine blk_far ?_ NB268_282.out _; (with_reducible repeat (first | refine qu_ ?_ _ | refine qv_ ?_ | refine qw_ ?_ _)); exact BK268.out))⟩; have n4_ : Aside0 (w35.heap[gb269]? = some (.cells #[.slice none 0 0, .slice none 0 0, .slice none 0 0] 30 (0, 0))) := ⟨(by rw [hw]; exact (by (with_reducible repeat (first | refine qu_ ?_ _ | refine qv_ ?_ | refine qw_ ?_ _)); refine blk_far ?_ NB269_282.out _; (with_reducible repeat (first | refine qu_ ?_ _ | refine qv_ ?_ | refine qw_ ?_ _)); refine blk_far ?_ NB269_282.out _; (with_reducible repeat (first | refine qu_ ?_ _ | refine qv_ ?_ | refine qw_ ?_ _)); refine blk_far ?_ NB269_282.out _; (with_reducible repeat (first | refine qu_ ?_ _ | refine qv_ ?_ | refine qw_ ?_ _)); exact BK269.out))⟩; have n5_ : Aside0 (w35.heap[gb282]? = some (.cells #[.slice Ao29 t273.length co29, .slice Ao33 t276.length co33, .slice Ao34 t279.length co34] 30 (0, 0))) := ⟨(by rw [hw]; exact (by (with_reducible repeat (first | refine qu_ ?_ _ | refine qv_ ?_ | refine qw_ ?_ _)); refine blk_put (cs := #[.slice Ao29 t273.length co29, .slice Ao33 t276.length co33, .slice none 0 0]) ?_ 2 _ rfl; (with_reducible repeat (first | refine qu_ ?_ _ | refine qv_ ?_ | refine qw_ ?_ _)); refine blk_put (cs := #[.slice Ao29 t273.length co29, .slice none 0 0, .slice none 0 0]) ?_ 1 _ rfl; (with_reducible repeat (first | refine qu_ ?_ _ | refine qv_ ?_ | refine qw_ ?_ _)); refine blk_put (cs := #[.slice none 0 0, .slice none 0 0, .slice none 0 0]) ?_ 0 _ rfl; (with_reducible repeat (first | refine qu_ ?_ _ | refine qv_ ?_ | refine qw_ ?_ _)); exact BK282.out))⟩; have n6_ : Aside0 (Below w.heap.size w w35) := ⟨(by rw [hw]; exact (by repeat (first | (with_reducible first | exact HB.out | apply qc_ | apply qx_ | apply qf_ | refine qg_ ?_ GE268.out | refine qg_ ?_ GE269.out | refine qg_ ?_ GE282.out) | exact HB.out)))⟩; clear hw; clear HO275; clear HO278; clear HO281; clear BK268; clear BK269; clear BK282; clear HB; have HO275 := n0_; have HO278 := n1_; have HO281 := n2_; have BK268 := n3_; have BK269 := n4_; have BK282 := n5_; have HB := n6_; clear n0_ n1_ n2_ n3_ n4_ n5_ n6_; have hcz36_0 : w35.cell? ⟨gb282, 0, none⟩ = some (.slice Ao29 t273.length co29) := (blk_cell BK282.out 0).trans rfl; have hcz36_1 : w35.cell? ⟨gb282, 1, none⟩ = some (.slice Ao33 t276.length co33) := (blk_cell BK282.out 1).trans rfl; have hcz36_2 : w35.cell? ⟨gb282, 2, none⟩ = some (.slice Ao34 t279.length co34) := (blk_cell BK282.out 2).trans rfl; have hfz36_0 := blk_frozen BK282.out 0; have hfz36_1 := blk_frozen BK282.out 1; have hfz36_2 := blk_frozen BK282.out 2; have p283 : 0 ≤ (a1 : Int) := of_decide_eq_true (by first | (with_reducible assumption) | assumption); have q283 : a1 < (t273.length : Int) := of_decide_eq_true (by first | (with_reducible assumption) | assumption); obtain ⟨ad283, A283_0, c283_0, e283, hx283_0, hl283_0, hi283_0⟩ := at_L1 (Kd.S_reads' HO275.out).2.2 a1 p283 q283; cases e283; obtain ⟨ce283, hce283, hMe283, hcc283⟩ := Kd.S_get HO275.out [] a1 p283 (by first | exact q283 | exact of_decide_eq_true (by first | (with_reducible assumption) | assumption) | (have e_ := (Kd.S_reads' HO275.out).1; omega)); obtain ⟨ve283_0, rfl, ge283_0⟩ := hMe283; have hv283_0 := hcc283 0 _ rfl; rw [Nat.add_zero, show ((Kd.slice 3 (Kd.int .i64))).sz = 1 from rfl, Nat.mul_one] at hv283_0; replace hv283_0 := Option.some.inj (hv283_0.symm.trans hx283_0); rw [hv283_0] at ge283_0; have HL283_0 := qm_ (show Kd.R (Kd.int .i64) 3 _ _ _ _ (rd_L1 t273 a1) from ge283_0); clear hv283_0 ge283_0; have HX283_0 := qm_ hx283_0; clear hcc283 hce283; have HR283_0 := qm_ hi283_0; have HC283_0 := qm_ hl283_0; clear hi283_0 hl283_0; replace p283 := eq_true p283; replace q283 := eq_true q283; have p16 : 0 ≤ (a2 : Int) := of_decide_eq_true (by first | (with_reducible assumption) | assumption); have q16 : (a2 : Int) < (((rd_L1 t273 a1).length : Int) : Int) := of_decide_eq_true (by first | (with_reducible assumption) | assumption); obtain ⟨go16, co16, eo16, gb16, gl16, cl16, HG16⟩ := Kd.R_form HL283_0.out (by omega); (first | cases eo16 | (injection eo16 with ea_ en_ ec_; (first | subst ea_ | (injection ea_ with ea_; subst ea_)); subst ec_; clear en_)); have GB16 := qm_ gb16; have GG16 := qm_ HG16; clear gb16 gl16 HG16; obtain ⟨hx16_0, hf16_0⟩ := Kd.R_celln 0 HL283_0.out (a2 : Int) p16 q16; replace p16 := eq_true p16; replace q16 := eq_true q16; have hq37 : (a1 : Int) < (t273.length : Int) := (by have h_ : (a1 : Int) < ((t273.length : Int) : Int) := of_decide_eq_true (by first | (with_reducible assumption) | assumption); first | exact h_ | (have e_ := (Kd.S_reads' HO275.out).1; omega) | simpa only [List.length_set, List.length_set] using h_); obtain ⟨oki37, ce37, hcl37, hM37, hcc37, hok37, hbk37⟩ := Kd.S_borrow HO275.out [] (a1 : Int) (of_decide_eq_true (by first | (with_reducible assumption) | assumption)) hq37; obtain ⟨ve37_0, rfl, ge37_0⟩ := hM37; have hv37 := hcc37 0 _ rfl; rw [Nat.add_zero, show ((Kd.slice 3 (Kd.int .i64))).sz = 1 from rfl, Nat.mul_one] at hv37; replace hv37 := Option.some.inj (hv37.symm.trans HX283_0.out); subst hv37; clear hcc37 hcl37; replace ge37_0 := (show Kd.R (Kd.int .i64) 3 _ _ _ _ (rd_L1 t273 a1) from ge37_0); have HP37 := Kd.R_putg ge37_0 (a2 : Int) a3) | ((with_reducible refine gate_store (t := 3) (p := 37) rfl ?_); refine store_event (t := 3) (p := 37) (v := ?vo_w38) (w1 := (w35.setCell ⟨go16, (a2 : Int).toNat, none⟩ (.int .i64 a3))) ?hg ?ho ?hn ?hr ?_; (case ho => rfl); (case hg => rfl); (case hn => rfl); (case hr => first | (go_simp; done) | (go_simp; rfl)); intro w38 hw; have hg : w35.grownBy w38 (some go16) := (by rw [hw]; exact HP37.2); have hz_ : Kd.R (Kd.int .i64) 3 w38 w.heap.size oki37 (.slice (some ⟨go16, 0, none⟩) (rd_L1 t273 a1).length c283_0) y284 := (by rw [hw, Ny284.out]; exact HP37.1); have hp_ : Kd.S (Kd.slice 3 (Kd.int .i64)) 24 w38 w.heap.size (fun k_ => some k_ ≠ (.slice Ao34 t279.length co34 : Value).ownBlock) (.slice (some ad283) t273.length co29) y286 := (by rw [Ny286.out]; exact hbk37 hg (fun k_ e_ => by injection e_ with e_; subst e_; exact ge37_0.1 _ rfl) (Kd.M_row hz_)); have hm_ := Kd.R_mono hz_ hok37; clear HP37 hbk37; have n0_ := qm_ (blk_grown (g := gb268) (o := .cells #[.slice A0_0 l0_0.length c0_0, .slice A0_1 l0_1.length c0_1, .slice A0_2 l0_2.length c0_2] 30 (0, 0)) (by first | with_reducible exact BK268.out | with_reducible exact qu_ BK268.out _ | exact BK268.out | exact qw_ BK268.out _) hg (Kd.R_ne HL283_0.out BK268.out (by decide))); have n1_ := qm_ (blk_grown (g := gb269) (o := .cells #[.slice none 0 0, .slice none 0 0, .slice none 0 0] 30 (0, 0)) (by first | with_reducible exact BK269.out | with_reducible exact qu_ BK269.out _ | exact BK269.out | exact qw_ BK269.out _) hg (Kd.R_ne HL283_0.out BK269.out (by decide))); have n2_ := qm_ (hp_); have n3_ := qm_ (Kd.R_over' (v := (.slice (some ⟨go16, 0, none⟩) (rd_L1 t273 a1).length c283_0)) (by (with_reducible repeat (first | apply qa_ | apply qn_ | apply qd_)); exact HO278.out) (Kd.R_typed HL283_0.out) (by decide) hg); have n4_ := qm_ (Kd.R_grown1 (by (with_reducible repeat (first | apply qa_ | apply qn_ | apply qd_)); exact HO281.out) rfl hg ((HL283_0.out.1 _ rfl).1)); have n5_ := qm_ (blk_grown (g := gb282) (o := .cells #[.slice (some ad283) t273.length co29, .slice Ao33 t276.length co33, .slice Ao34 t279.length co34] 30 (0, 0)) (by first | with_reducible exact BK282.out | with_reducible exact qu_ BK282.out _ | exact BK282.out | exact qw_ BK282.out _) hg (Kd.R_ne HL283_0.out BK282.out (by decide))); have n6_ := qm_ ((by rw [hw]; exact qg_ (HB.out) GB16.out : Below w.heap.size w w38)); have n7_ := qm_ (hm_); have n8_ := qm_ ((Kd.R_reads' hm_).2.1); clear BK268; clear BK269; clear HO275; clear HO278; clear HO281; clear BK282; clear HB; clear HL283_0; have BK268 := n0_; have BK269 := n1_; have HO275 := n2_; have HO278 := n3_; have HO281 := n4_; have BK282 := n5_; have HB := n6_; have HL287 := n7_; have HC285 := n8_; clear n0_ n1_ n2_ n3_ n4_ n5_ n6_ n7_ n8_; clear hg hw hp_ hz_ hm_ hok37; have hcz39_0 : w38.cell? ⟨gb282, 0, none⟩ = some (.slice (some ad283) t273.length co29) := (blk_cell BK282.out 0).trans rfl; have hcz39_1 : w38.cell? ⟨gb282, 1, none⟩ = some (.slice Ao33 t276.length co33) := (blk_cell BK282.out 1).trans rfl; have hcz39_2 : w38.cell? ⟨gb282, 2, none⟩ = some (.slice Ao34 t279.length co34) := (blk_cell BK282.out 2).trans rfl; have hfz39_0 := blk_frozen BK282.out 0; have hfz39_1 := blk_frozen BK282.out 1; have hfz39_2 := blk_frozen BK282.out 2; have hcz40_0 : w38.cell? ⟨gb269, 0, none⟩ = some (.slice none 0 0) := (blk_cell BK269.out 0).trans rfl; have hcz40_1 : w38.cell? ⟨gb269, 1, none⟩ = some (.slice none 0 0) := (blk_cell BK269.out 1).trans rfl; have hcz40_2 : w38.cell? ⟨gb269, 2, none⟩ = some (.slice none 0 0) := (blk_cell BK269.out 2).trans rfl; have hfz40_0 := blk_frozen BK269.out 0; have hfz40_1 := blk_frozen BK269.out 1; have hfz40_2 := blk_frozen BK269.out 2))
        refine bodyPost_ret (results_ct rfl _ _ gb269 30 #[.slice (some ad283) t273.length co29, .slice Ao33 t276.length co33, .slice Ao34 t279.length co34] (0, 0) _ rfl (by (with_reducible repeat (first | refine qu_ ?_ _ | refine qv_ ?_ | refine qw_ ?_ _)); refine blk_put (cs := #[.slice (some ad283) t273.length co29, .slice Ao33 t276.length co33, .slice none 0 0]) ?_ 2 _ rfl; (with_reducible repeat (first | refine qu_ ?_ _ | refine qv_ ?_ | refine qw_ ?_ _)); refine blk_put (cs := #[.slice (some ad283) t273.length co29, .slice none 0 0, .slice none 0 0]) ?_ 1 _ rfl; (with_reducible repeat (first | refine qu_ ?_ _ | refine qv_ ?_ | refine qw_ ?_ _)); refine blk_put (cs := #[.slice none 0 0, .slice none 0 0, .slice none 0 0]) ?_ 0 _ rfl; (with_reducible repeat (first | refine qu_ ?_ _ | refine qv_ ?_ | refine qw_ ?_ _)); exact BK269.out) Try.underlying30 rfl (by kernel_rfl)) rfl ?_
        exact ⟨_, _, _, by first | rfl | (simp [errW_none, errW_some] <;> rfl) | (simp [*, errW_none, errW_some] <;> rfl), by (with_reducible repeat (first | apply Kd.S_alloc | apply Kd.S_drewN | apply Kd.S_drew)); exact Kd.S_mono (Kd.S_far (p := ⟨gb269, 2, none⟩) (Kd.S_far (p := ⟨gb269, 1, none⟩) (Kd.S_far (p := ⟨gb269, 0, none⟩) (Kd.S_types HO275.out BK269.out (by decide)) (fun _ hk => hk.2) (.slice (some ad283) t273.length co29)) (fun _ hk => hk.2) (.slice Ao33 t276.length co33)) (fun _ hk => hk.2) (.slice Ao34 t279.length co34)) (fun _ hk => hk.1), by (with_reducible repeat (first | apply qa_ | apply qn_ | apply qd_)); exact Kd.R_mono (Kd.R_far (p := ⟨gb269, 2, none⟩) (Kd.R_far (p := ⟨gb269, 1, none⟩) (Kd.R_far (p := ⟨gb269, 0, none⟩) (Kd.R_types HO278.out BK269.out (by decide)) (fun _ hk => hk.2) (.slice (some ad283) t273.length co29)) (fun _ hk => hk.2) (.slice Ao33 t276.length co33)) (fun _ hk => hk.2) (.slice Ao34 t279.length co34)) (fun _ hk => trivial), by (with_reducible repeat (first | apply qa_ | apply qn_ | apply qd_)); exact Kd.R_mono (Kd.R_far (p := ⟨gb269, 2, none⟩) (Kd.R_far (p := ⟨gb269, 1, none⟩) (Kd.R_far (p := ⟨gb269, 0, none⟩) (Kd.R_types HO281.out BK269.out (by decide)) (fun _ hk => hk.2) (.slice (some ad283) t273.length co29)) (fun _ hk => hk.2) (.slice Ao33 t276.length co33)) (fun _ hk => hk.2) (.slice Ao34 t279.length co34)) (fun _ hk => trivial), by repeat (first | (with_reducible first | exact HB.out | apply qc_ | apply qx_ | apply qf_ | refine qg_ ?_ GE268.out | refine qg_ ?_ GE269.out | refine qg_ ?_ GE282.out) | exact HB.out)⟩
       ·rw [if_neg c15] at H
        exact absurd H (by simp)
      ·rw [if_neg c14] at H
       exact absurd H (by simp)
     ·rw [if_neg c13] at H
      exact absurd H (by simp)
    ·rw [if_neg c12] at H
     exact absurd H (by simp)
   ·replace c10 := Bool.eq_false_iff.mpr c10
    subst c10
    have H1 : (some (([] : List (List Int)), ([] : List Bool), ([] : List Int), false)) = some (r1, r2, r3, r4) := by rw [if_neg (show ¬ (false = true) by decide)] at H; exact H
    clear H
    have H := H1
    clear H1
    simp only [Option.some.injEq, Prod.mk.injEq] at H
    obtain ⟨rfl, rfl, rfl, rfl⟩ := H
    go_enter Try.func33, Try.ntmps33
    go_wp2_with (first | ((with_reducible refine gate_dst (N := 4) rfl ?_); refine box_event ?hg (N := 4) ?hd (cs := #[.slice A0_0 l0_0.length c0_0, .slice A0_1 l0_1.length c0_1, .slice A0_2 l0_2.length c0_2]) (t := 30) ?hr ?_; (case hd => rfl); (case hg => rfl); (case hr => first | (go_simp; done) | (go_simp; rfl)); intro gb268 hg w41 hbox hb; have n0_ := qm_ (qh_ (by repeat (first | (with_reducible first | exact HB.out | apply qc_ | apply qx_ | apply qf_) | exact HB.out)) hb); have n1_ := qm_ (hbox); have n2_ := qm_ ((by rw [hg]; exact (qz_ (by repeat (first | (with_reducible first | exact HB.out | apply qc_ | apply qx_ | apply qf_) | exact HB.out))) : w.heap.size ≤ gb268)); have n3_ := qm_ ((by rw [hg]; exact (qz_ (by repeat (first | (with_reducible first | exact HB.out | apply qc_ | apply qx_ | apply qf_) | exact HB.out))) : w.heap.size ≤ gb268)); clear HB; have HB := n0_; have BK268 := n1_; have GW268 := n2_; have GE268 := n3_; clear n0_ n1_ n2_ n3_; clear hb hbox hg) | ((with_reducible refine gate_dst (N := 8) rfl ?_); refine box_event ?hg (N := 8) ?hd (cs := #[.slice none 0 0, .slice none 0 0, .slice none 0 0]) (t := 30) ?hr ?_; (case hd => rfl); (case hg => rfl); (case hr => first | (go_simp; done) | (go_simp; rfl)); intro gb269 hg w42 hbox hb; have n0_ := qm_ (qs_ (g := gb268) (o := .cells #[.slice A0_0 l0_0.length c0_0, .slice A0_1 l0_1.length c0_1, .slice A0_2 l0_2.length c0_2] 30 (0, 0)) (by first | with_reducible exact BK268.out | with_reducible exact qu_ BK268.out _ | exact BK268.out | exact qw_ BK268.out _) hb); have n1_ := qm_ (qh_ (by repeat (first | (with_reducible first | exact HB.out | apply qc_ | apply qx_ | apply qf_ | refine qg_ ?_ GE268.out) | exact HB.out)) hb); have n2_ := qm_ (hbox); have n3_ := qm_ ((by rw [hg]; exact (qz_ (by repeat (first | (with_reducible first | exact HB.out | apply qc_ | apply qx_ | apply qf_ | refine qg_ ?_ GE268.out) | exact HB.out))) : w.heap.size ≤ gb269)); have n4_ := qm_ ((by rw [hg]; exact (qz_ (by repeat (first | (with_reducible first | exact HB.out | apply qc_ | apply qx_ | apply qf_ | refine qg_ ?_ GE268.out) | exact HB.out))) : w.heap.size ≤ gb269)); have n5_ := qm_ ((by rw [hg]; exact Nat.ne_of_lt (blk_lt (g := gb268) (o := .cells #[.slice A0_0 l0_0.length c0_0, .slice A0_1 l0_1.length c0_1, .slice A0_2 l0_2.length c0_2] 30 (0, 0)) (by first | with_reducible exact BK268.out | with_reducible exact qu_ BK268.out _ | exact BK268.out | exact qw_ BK268.out _)) : gb268 ≠ gb269)); have n6_ := qm_ ((by rw [hg]; exact Nat.ne_of_gt (blk_lt (g := gb268) (o := .cells #[.slice A0_0 l0_0.length c0_0, .slice A0_1 l0_1.length c0_1, .slice A0_2 l0_2.length c0_2] 30 (0, 0)) (by first | with_reducible exact BK268.out | with_reducible exact qu_ BK268.out _ | exact BK268.out | exact qw_ BK268.out _)) : gb269 ≠ gb268)); clear BK268; clear HB; have BK268 := n0_; have HB := n1_; have BK269 := n2_; have GW269 := n3_; have GE269 := n4_; have NB268_269 := n5_; have NB269_268 := n6_; clear n0_ n1_ n2_ n3_ n4_ n5_ n6_; clear hb hbox hg; have hnb43 := NB268_269.out; have hnc43 := NB269_268.out; have hcz44_0 : w42.cell? ⟨gb268, 0, none⟩ = some (.slice A0_0 l0_0.length c0_0) := (blk_cell BK268.out 0).trans rfl; have hcz44_1 : w42.cell? ⟨gb268, 1, none⟩ = some (.slice A0_1 l0_1.length c0_1) := (blk_cell BK268.out 1).trans rfl; have hcz44_2 : w42.cell? ⟨gb268, 2, none⟩ = some (.slice A0_2 l0_2.length c0_2) := (blk_cell BK268.out 2).trans rfl; have hfz44_0 := blk_frozen BK268.out 0; have hfz44_1 := blk_frozen BK268.out 1; have hfz44_2 := blk_frozen BK268.out 2) | ((with_reducible refine gate_callee (f := 71) rfl ?_); refine goesL_ (some 12) rfl rfl Try.func71 (by kernel_rfl) rfl #[.agg #[.slice A0_0 l0_0.length c0_0, .slice A0_1 l0_1.length c0_1, .slice A0_2 l0_2.length c0_2]] rfl (by (try simp only [List.map_toArray, List.map_cons, List.map_nil]); first | done | rfl | (simp only [List.length_drop, List.length_take]; rfl)) ?_; (with_reducible refine (impl_isHeap.calls k _ _ l0_0 _ _ l0_1 _ _ l0_2 true _ ?side1 ?side2 ?side3 ?side4 ?side5 ?side6 A5.out).mono ?_); (case side1 => repeat (first | exact (Kd.C_below HR0_0.out HB.out) | (with_reducible refine Kd.C_alloc ?_ _) | (with_reducible refine Kd.C_drewN ?_ _) | (with_reducible refine Kd.C_drew ?_))); (case side2 => exact HC0_0.out); (case side3 => repeat (first | exact (Kd.C_below HR0_1.out HB.out) | (with_reducible refine Kd.C_alloc ?_ _) | (with_reducible refine Kd.C_drewN ?_ _) | (with_reducible refine Kd.C_drew ?_))); (case side4 => exact HC0_1.out); (case side5 => repeat (first | exact (Kd.C_below HR0_2.out HB.out) | (with_reducible refine Kd.C_alloc ?_ _) | (with_reducible refine Kd.C_drewN ?_ _) | (with_reducible refine Kd.C_drew ?_))); (case side6 => exact HC0_2.out); rintro e w45 ⟨rfl, hb⟩; refine ⟨_, rfl, ?_⟩; have n0_ := qm_ (qs_ (g := gb268) (o := .cells #[.slice A0_0 l0_0.length c0_0, .slice A0_1 l0_1.length c0_1, .slice A0_2 l0_2.length c0_2] 30 (0, 0)) (by first | with_reducible exact BK268.out | with_reducible exact qu_ BK268.out _ | exact BK268.out | exact qw_ BK268.out _) hb); have n1_ := qm_ (qs_ (g := gb269) (o := .cells #[.slice none 0 0, .slice none 0 0, .slice none 0 0] 30 (0, 0)) (by first | with_reducible exact BK269.out | with_reducible exact qu_ BK269.out _ | exact BK269.out | exact qw_ BK269.out _) hb); have n2_ := qm_ (qh_ (by repeat (first | (with_reducible first | exact HB.out | apply qc_ | apply qx_ | apply qf_ | refine qg_ ?_ GE268.out | refine qg_ ?_ GE269.out) | exact HB.out)) hb); clear BK268; clear BK269; clear HB; have BK268 := n0_; have BK269 := n1_; have HB := n2_; clear n0_ n1_ n2_; (try clear hb); (try clear hb2); (try clear hk); (try clear hi); have hcz46_0 : w45.cell? ⟨gb268, 0, none⟩ = some (.slice A0_0 l0_0.length c0_0) := (blk_cell BK268.out 0).trans rfl; have hcz46_1 : w45.cell? ⟨gb268, 1, none⟩ = some (.slice A0_1 l0_1.length c0_1) := (blk_cell BK268.out 1).trans rfl; have hcz46_2 : w45.cell? ⟨gb268, 2, none⟩ = some (.slice A0_2 l0_2.length c0_2) := (blk_cell BK268.out 2).trans rfl; have hfz46_0 := blk_frozen BK268.out 0; have hfz46_1 := blk_frozen BK268.out 1; have hfz46_2 := blk_frozen BK268.out 2) | (go_at_call 72; (with_reducible refine (impl_Heap_hasField.calls _ _ l0_0 _ _ l0_1 _ _ l0_2 a1 a2 true _ ?side1 ?side2 ?side3 ?side4 ?side5 ?side6 A7.out).mono ?_); (case side1 => repeat (first | exact (Kd.C_below HR0_0.out HB.out) | (with_reducible refine Kd.C_alloc ?_ _) | (with_reducible refine Kd.C_drewN ?_ _) | (with_reducible refine Kd.C_drew ?_))); (case side2 => exact HC0_0.out); (case side3 => repeat (first | exact (Kd.C_below HR0_1.out HB.out) | (with_reducible refine Kd.C_alloc ?_ _) | (with_reducible refine Kd.C_drewN ?_ _) | (with_reducible refine Kd.C_drew ?_))); (case side4 => exact HC0_1.out); (case side5 => repeat (first | exact (Kd.C_below HR0_2.out HB.out) | (with_reducible refine Kd.C_alloc ?_ _) | (with_reducible refine Kd.C_drewN ?_ _) | (with_reducible refine Kd.C_drew ?_))); (case side6 => exact HC0_2.out); rintro e w47 ⟨rfl, hb⟩; have n0_ := qm_ (qs_ (g := gb268) (o := .cells #[.slice A0_0 l0_0.length c0_0, .slice A0_1 l0_1.length c0_1, .slice A0_2 l0_2.length c0_2] 30 (0, 0)) (by first | with_reducible exact BK268.out | with_reducible exact qu_ BK268.out _ | exact BK268.out | exact qw_ BK268.out _) hb); have n1_ := qm_ (qs_ (g := gb269) (o := .cells #[.slice none 0 0, .slice none 0 0, .slice none 0 0] 30 (0, 0)) (by first | with_reducible exact BK269.out | with_reducible exact qu_ BK269.out _ | exact BK269.out | exact qw_ BK269.out _) hb); have n2_ := qm_ (qh_ (by repeat (first | (with_reducible first | exact HB.out | apply qc_ | apply qx_ | apply qf_ | refine qg_ ?_ GE268.out | refine qg_ ?_ GE269.out) | exact HB.out)) hb); clear BK268; clear BK269; clear HB; have BK268 := n0_; have BK269 := n1_; have HB := n2_; clear n0_ n1_ n2_; (try clear hb); (try clear hb2); (try clear hk); (try clear hi); have hcz48_0 : w47.cell? ⟨gb268, 0, none⟩ = some (.slice A0_0 l0_0.length c0_0) := (blk_cell BK268.out 0).trans rfl; have hcz48_1 : w47.cell? ⟨gb268, 1, none⟩ = some (.slice A0_1 l0_1.length c0_1) := (blk_cell BK268.out 1).trans rfl; have hcz48_2 : w47.cell? ⟨gb268, 2, none⟩ = some (.slice A0_2 l0_2.length c0_2) := (blk_cell BK268.out 2).trans rfl; have hfz48_0 := blk_frozen BK268.out 0; have hfz48_1 := blk_frozen BK268.out 1; have hfz48_2 := blk_frozen BK268.out 2) | (go_at_call 73; (with_reducible refine (impl_Heap_isRef.calls _ _ l0_0 _ _ l0_1 _ _ l0_2 a3 false _ ?side1 ?side2 ?side3 ?side4 ?side5 ?side6 A9.out).mono ?_); (case side1 => repeat (first | exact (Kd.C_below HR0_0.out HB.out) | (with_reducible refine Kd.C_alloc ?_ _) | (with_reducible refine Kd.C_drewN ?_ _) | (with_reducible refine Kd.C_drew ?_))); (case side2 => exact HC0_0.out); (case side3 => repeat (first | exact (Kd.C_below HR0_1.out HB.out) | (with_reducible refine Kd.C_alloc ?_ _) | (with_reducible refine Kd.C_drewN ?_ _) | (with_reducible refine Kd.C_drew ?_))); (case side4 => exact HC0_1.out); (case side5 => repeat (first | exact (Kd.C_below HR0_2.out HB.out) | (with_reducible refine Kd.C_alloc ?_ _) | (with_reducible refine Kd.C_drewN ?_ _) | (with_reducible refine Kd.C_drew ?_))); (case side6 => exact HC0_2.out); rintro e w49 ⟨rfl, hb⟩; have n0_ := qm_ (qs_ (g := gb268) (o := .cells #[.slice A0_0 l0_0.length c0_0, .slice A0_1 l0_1.length c0_1, .slice A0_2 l0_2.length c0_2] 30 (0, 0)) (by first | with_reducible exact BK268.out | with_reducible exact qu_ BK268.out _ | exact BK268.out | exact qw_ BK268.out _) hb); have n1_ := qm_ (qs_ (g := gb269) (o := .cells #[.slice none 0 0, .slice none 0 0, .slice none 0 0] 30 (0, 0)) (by first | with_reducible exact BK269.out | with_reducible exact qu_ BK269.out _ | exact BK269.out | exact qw_ BK269.out _) hb); have n2_ := qm_ (qh_ (by repeat (first | (with_reducible first | exact HB.out | apply qc_ | apply qx_ | apply qf_ | refine qg_ ?_ GE268.out | refine qg_ ?_ GE269.out) | exact HB.out)) hb); clear BK268; clear BK269; clear HB; have BK268 := n0_; have BK269 := n1_; have HB := n2_; clear n0_ n1_ n2_; (try clear hb); (try clear hb2); (try clear hk); (try clear hi); have hcz50_0 : w49.cell? ⟨gb269, 0, none⟩ = some (.slice none 0 0) := (blk_cell BK269.out 0).trans rfl; have hcz50_1 : w49.cell? ⟨gb269, 1, none⟩ = some (.slice none 0 0) := (blk_cell BK269.out 1).trans rfl; have hcz50_2 : w49.cell? ⟨gb269, 2, none⟩ = some (.slice none 0 0) := (blk_cell BK269.out 2).trans rfl; have hfz50_0 := blk_frozen BK269.out 0; have hfz50_1 := blk_frozen BK269.out 1; have hfz50_2 := blk_frozen BK269.out 2))
    refine bodyPost_ret (results_ct rfl _ _ gb269 30 #[.slice none 0 0, .slice none 0 0, .slice none 0 0] (0, 0) _ rfl (by (with_reducible repeat (first | refine qu_ ?_ _ | refine qv_ ?_ | refine qw_ ?_ _)); refine blk_put (cs := #[.slice none 0 0, .slice none 0 0, .slice none 0 0]) ?_ 2 _ rfl; (with_reducible repeat (first | refine qu_ ?_ _ | refine qv_ ?_ | refine qw_ ?_ _)); refine blk_put (cs := #[.slice none 0 0, .slice none 0 0, .slice none 0 0]) ?_ 1 _ rfl; (with_reducible repeat (first | refine qu_ ?_ _ | refine qv_ ?_ | refine qw_ ?_ _)); refine blk_put (cs := #[.slice none 0 0, .slice none 0 0, .slice none 0 0]) ?_ 0 _ rfl; (with_reducible repeat (first | refine qu_ ?_ _ | refine qv_ ?_ | refine qw_ ?_ _)); exact BK269.out) Try.underlying30 rfl (by kernel_rfl)) rfl ?_
    exact ⟨_, _, _, by first | rfl | (simp [errW_none, errW_some] <;> rfl) | (simp [*, errW_none, errW_some] <;> rfl), by first | exact Kd.S_nil _ _ _ _ _ | exact Kd.N_nil _ _ _ _ _ | exact Kd.V_nil _ _ _ _ _ | exact Kd.Q_nil _ _ _ _ _ | exact Kd.R_nil _ _ _ _ _, by first | exact Kd.R_nil _ _ _ _ _ | exact Kd.N_nil _ _ _ _ _ | exact Kd.V_nil _ _ _ _ _ | exact Kd.Q_nil _ _ _ _ _ | exact Kd.S_nil _ _ _ _ _, by first | exact Kd.R_nil _ _ _ _ _ | exact Kd.N_nil _ _ _ _ _ | exact Kd.V_nil _ _ _ _ _ | exact Kd.Q_nil _ _ _ _ _ | exact Kd.S_nil _ _ _ _ _, by repeat (first | (with_reducible first | exact HB.out | apply qc_ | apply qx_ | apply qf_ | refine qg_ ?_ GE268.out | refine qg_ ?_ GE269.out) | exact HB.out)⟩
  ·replace c8 := Bool.eq_false_iff.mpr c8
   subst c8
   have H1 : (some (([] : List (List Int)), ([] : List Bool), ([] : List Int), false)) = some (r1, r2, r3, r4) := by rw [if_neg (show ¬ (false = true) by decide)] at H; exact H
   clear H
   have H := H1
   clear H1
   simp only [Option.some.injEq, Prod.mk.injEq] at H
   obtain ⟨rfl, rfl, rfl, rfl⟩ := H
   go_enter Try.func33, Try.ntmps33
   go_wp2_with (first | ((with_reducible refine gate_dst (N := 4) rfl ?_); refine box_event ?hg (N := 4) ?hd (cs := #[.slice A0_0 l0_0.length c0_0, .slice A0_1 l0_1.length c0_1, .slice A0_2 l0_2.length c0_2]) (t := 30) ?hr ?_; (case hd => rfl); (case hg => rfl); (case hr => first | (go_simp; done) | (go_simp; rfl)); intro gb268 hg w51 hbox hb; have n0_ := qm_ (qh_ (by repeat (first | (with_reducible first | exact HB.out | apply qc_ | apply qx_ | apply qf_) | exact HB.out)) hb); have n1_ := qm_ (hbox); have n2_ := qm_ ((by rw [hg]; exact (qz_ (by repeat (first | (with_reducible first | exact HB.out | apply qc_ | apply qx_ | apply qf_) | exact HB.out))) : w.heap.size ≤ gb268)); have n3_ := qm_ ((by rw [hg]; exact (qz_ (by repeat (first | (with_reducible first | exact HB.out | apply qc_ | apply qx_ | apply qf_) | exact HB.out))) : w.heap.size ≤ gb268)); clear HB; have HB := n0_; have BK268 := n1_; have GW268 := n2_; have GE268 := n3_; clear n0_ n1_ n2_ n3_; clear hb hbox hg) | ((with_reducible refine gate_dst (N := 8) rfl ?_); refine box_event ?hg (N := 8) ?hd (cs := #[.slice none 0 0, .slice none 0 0, .slice none 0 0]) (t := 30) ?hr ?_; (case hd => rfl); (case hg => rfl); (case hr => first | (go_simp; done) | (go_simp; rfl)); intro gb269 hg w52 hbox hb; have n0_ := qm_ (qs_ (g := gb268) (o := .cells #[.slice A0_0 l0_0.length c0_0, .slice A0_1 l0_1.length c0_1, .slice A0_2 l0_2.length c0_2] 30 (0, 0)) (by first | with_reducible exact BK268.out | with_reducible exact qu_ BK268.out _ | exact BK268.out | exact qw_ BK268.out _) hb); have n1_ := qm_ (qh_ (by repeat (first | (with_reducible first | exact HB.out | apply qc_ | apply qx_ | apply qf_ | refine qg_ ?_ GE268.out) | exact HB.out)) hb); have n2_ := qm_ (hbox); have n3_ := qm_ ((by rw [hg]; exact (qz_ (by repeat (first | (with_reducible first | exact HB.out | apply qc_ | apply qx_ | apply qf_ | refine qg_ ?_ GE268.out) | exact HB.out))) : w.heap.size ≤ gb269)); have n4_ := qm_ ((by rw [hg]; exact (qz_ (by repeat (first | (with_reducible first | exact HB.out | apply qc_ | apply qx_ | apply qf_ | refine qg_ ?_ GE268.out) | exact HB.out))) : w.heap.size ≤ gb269)); have n5_ := qm_ ((by rw [hg]; exact Nat.ne_of_lt (blk_lt (g := gb268) (o := .cells #[.slice A0_0 l0_0.length c0_0, .slice A0_1 l0_1.length c0_1, .slice A0_2 l0_2.length c0_2] 30 (0, 0)) (by first | with_reducible exact BK268.out | with_reducible exact qu_ BK268.out _ | exact BK268.out | exact qw_ BK268.out _)) : gb268 ≠ gb269)); have n6_ := qm_ ((by rw [hg]; exact Nat.ne_of_gt (blk_lt (g := gb268) (o := .cells #[.slice A0_0 l0_0.length c0_0, .slice A0_1 l0_1.length c0_1, .slice A0_2 l0_2.length c0_2] 30 (0, 0)) (by first | with_reducible exact BK268.out | with_reducible exact qu_ BK268.out _ | exact BK268.out | exact qw_ BK268.out _)) : gb269 ≠ gb268)); clear BK268; clear HB; have BK268 := n0_; have HB := n1_; have BK269 := n2_; have GW269 := n3_; have GE269 := n4_; have NB268_269 := n5_; have NB269_268 := n6_; clear n0_ n1_ n2_ n3_ n4_ n5_ n6_; clear hb hbox hg; have hnb53 := NB268_269.out; have hnc53 := NB269_268.out; have hcz54_0 : w52.cell? ⟨gb268, 0, none⟩ = some (.slice A0_0 l0_0.length c0_0) := (blk_cell BK268.out 0).trans rfl; have hcz54_1 : w52.cell? ⟨gb268, 1, none⟩ = some (.slice A0_1 l0_1.length c0_1) := (blk_cell BK268.out 1).trans rfl; have hcz54_2 : w52.cell? ⟨gb268, 2, none⟩ = some (.slice A0_2 l0_2.length c0_2) := (blk_cell BK268.out 2).trans rfl; have hfz54_0 := blk_frozen BK268.out 0; have hfz54_1 := blk_frozen BK268.out 1; have hfz54_2 := blk_frozen BK268.out 2) | ((with_reducible refine gate_callee (f := 71) rfl ?_); refine goesL_ (some 12) rfl rfl Try.func71 (by kernel_rfl) rfl #[.agg #[.slice A0_0 l0_0.length c0_0, .slice A0_1 l0_1.length c0_1, .slice A0_2 l0_2.length c0_2]] rfl (by (try simp only [List.map_toArray, List.map_cons, List.map_nil]); first | done | rfl | (simp only [List.length_drop, List.length_take]; rfl)) ?_; (with_reducible refine (impl_isHeap.calls k _ _ l0_0 _ _ l0_1 _ _ l0_2 true _ ?side1 ?side2 ?side3 ?side4 ?side5 ?side6 A5.out).mono ?_); (case side1 => repeat (first | exact (Kd.C_below HR0_0.out HB.out) | (with_reducible refine Kd.C_alloc ?_ _) | (with_reducible refine Kd.C_drewN ?_ _) | (with_reducible refine Kd.C_drew ?_))); (case side2 => exact HC0_0.out); (case side3 => repeat (first | exact (Kd.C_below HR0_1.out HB.out) | (with_reducible refine Kd.C_alloc ?_ _) | (with_reducible refine Kd.C_drewN ?_ _) | (with_reducible refine Kd.C_drew ?_))); (case side4 => exact HC0_1.out); (case side5 => repeat (first | exact (Kd.C_below HR0_2.out HB.out) | (with_reducible refine Kd.C_alloc ?_ _) | (with_reducible refine Kd.C_drewN ?_ _) | (with_reducible refine Kd.C_drew ?_))); (case side6 => exact HC0_2.out); rintro e w55 ⟨rfl, hb⟩; refine ⟨_, rfl, ?_⟩; have n0_ := qm_ (qs_ (g := gb268) (o := .cells #[.slice A0_0 l0_0.length c0_0, .slice A0_1 l0_1.length c0_1, .slice A0_2 l0_2.length c0_2] 30 (0, 0)) (by first | with_reducible exact BK268.out | with_reducible exact qu_ BK268.out _ | exact BK268.out | exact qw_ BK268.out _) hb); have n1_ := qm_ (qs_ (g := gb269) (o := .cells #[.slice none 0 0, .slice none 0 0, .slice none 0 0] 30 (0, 0)) (by first | with_reducible exact BK269.out | with_reducible exact qu_ BK269.out _ | exact BK269.out | exact qw_ BK269.out _) hb); have n2_ := qm_ (qh_ (by repeat (first | (with_reducible first | exact HB.out | apply qc_ | apply qx_ | apply qf_ | refine qg_ ?_ GE268.out | refine qg_ ?_ GE269.out) | exact HB.out)) hb); clear BK268; clear BK269; clear HB; have BK268 := n0_; have BK269 := n1_; have HB := n2_; clear n0_ n1_ n2_; (try clear hb); (try clear hb2); (try clear hk); (try clear hi); have hcz56_0 : w55.cell? ⟨gb268, 0, none⟩ = some (.slice A0_0 l0_0.length c0_0) := (blk_cell BK268.out 0).trans rfl; have hcz56_1 : w55.cell? ⟨gb268, 1, none⟩ = some (.slice A0_1 l0_1.length c0_1) := (blk_cell BK268.out 1).trans rfl; have hcz56_2 : w55.cell? ⟨gb268, 2, none⟩ = some (.slice A0_2 l0_2.length c0_2) := (blk_cell BK268.out 2).trans rfl; have hfz56_0 := blk_frozen BK268.out 0; have hfz56_1 := blk_frozen BK268.out 1; have hfz56_2 := blk_frozen BK268.out 2) | (go_at_call 72; (with_reducible refine (impl_Heap_hasField.calls _ _ l0_0 _ _ l0_1 _ _ l0_2 a1 a2 false _ ?side1 ?side2 ?side3 ?side4 ?side5 ?side6 A7.out).mono ?_); (case side1 => repeat (first | exact (Kd.C_below HR0_0.out HB.out) | (with_reducible refine Kd.C_alloc ?_ _) | (with_reducible refine Kd.C_drewN ?_ _) | (with_reducible refine Kd.C_drew ?_))); (case side2 => exact HC0_0.out); (case side3 => repeat (first | exact (Kd.C_below HR0_1.out HB.out) | (with_reducible refine Kd.C_alloc ?_ _) | (with_reducible refine Kd.C_drewN ?_ _) | (with_reducible refine Kd.C_drew ?_))); (case side4 => exact HC0_1.out); (case side5 => repeat (first | exact (Kd.C_below HR0_2.out HB.out) | (with_reducible refine Kd.C_alloc ?_ _) | (with_reducible refine Kd.C_drewN ?_ _) | (with_reducible refine Kd.C_drew ?_))); (case side6 => exact HC0_2.out); rintro e w57 ⟨rfl, hb⟩; have n0_ := qm_ (qs_ (g := gb268) (o := .cells #[.slice A0_0 l0_0.length c0_0, .slice A0_1 l0_1.length c0_1, .slice A0_2 l0_2.length c0_2] 30 (0, 0)) (by first | with_reducible exact BK268.out | with_reducible exact qu_ BK268.out _ | exact BK268.out | exact qw_ BK268.out _) hb); have n1_ := qm_ (qs_ (g := gb269) (o := .cells #[.slice none 0 0, .slice none 0 0, .slice none 0 0] 30 (0, 0)) (by first | with_reducible exact BK269.out | with_reducible exact qu_ BK269.out _ | exact BK269.out | exact qw_ BK269.out _) hb); have n2_ := qm_ (qh_ (by repeat (first | (with_reducible first | exact HB.out | apply qc_ | apply qx_ | apply qf_ | refine qg_ ?_ GE268.out | refine qg_ ?_ GE269.out) | exact HB.out)) hb); clear BK268; clear BK269; clear HB; have BK268 := n0_; have BK269 := n1_; have HB := n2_; clear n0_ n1_ n2_; (try clear hb); (try clear hb2); (try clear hk); (try clear hi); have hcz58_0 : w57.cell? ⟨gb269, 0, none⟩ = some (.slice none 0 0) := (blk_cell BK269.out 0).trans rfl; have hcz58_1 : w57.cell? ⟨gb269, 1, none⟩ = some (.slice none 0 0) := (blk_cell BK269.out 1).trans rfl; have hcz58_2 : w57.cell? ⟨gb269, 2, none⟩ = some (.slice none 0 0) := (blk_cell BK269.out 2).trans rfl; have hfz58_0 := blk_frozen BK269.out 0; have hfz58_1 := blk_frozen BK269.out 1; have hfz58_2 := blk_frozen BK269.out 2))
   refine bodyPost_ret (results_ct rfl _ _ gb269 30 #[.slice none 0 0, .slice none 0 0, .slice none 0 0] (0, 0) _ rfl (by (with_reducible repeat (first | refine qu_ ?_ _ | refine qv_ ?_ | refine qw_ ?_ _)); refine blk_put (cs := #[.slice none 0 0, .slice none 0 0, .slice none 0 0]) ?_ 2 _ rfl; (with_reducible repeat (first | refine qu_ ?_ _ | refine qv_ ?_ | refine qw_ ?_ _)); refine blk_put (cs := #[.slice none 0 0, .slice none 0 0, .slice none 0 0]) ?_ 1 _ rfl; (with_reducible repeat (first | refine qu_ ?_ _ | refine qv_ ?_ | refine qw_ ?_ _)); refine blk_put (cs := #[.slice none 0 0, .slice none 0 0, .slice none 0 0]) ?_ 0 _ rfl; (with_reducible repeat (first | refine qu_ ?_ _ | refine qv_ ?_ | refine qw_ ?_ _)); exact BK269.out) Try.underlying30 rfl (by kernel_rfl)) rfl ?_
   exact ⟨_, _, _, by first | rfl | (simp [errW_none, errW_some] <;> rfl) | (simp [*, errW_none, errW_some] <;> rfl), by first | exact Kd.S_nil _ _ _ _ _ | exact Kd.N_nil _ _ _ _ _ | exact Kd.V_nil _ _ _ _ _ | exact Kd.Q_nil _ _ _ _ _ | exact Kd.R_nil _ _ _ _ _, by first | exact Kd.R_nil _ _ _ _ _ | exact Kd.N_nil _ _ _ _ _ | exact Kd.V_nil _ _ _ _ _ | exact Kd.Q_nil _ _ _ _ _ | exact Kd.S_nil _ _ _ _ _, by first | exact Kd.R_nil _ _ _ _ _ | exact Kd.N_nil _ _ _ _ _ | exact Kd.V_nil _ _ _ _ _ | exact Kd.Q_nil _ _ _ _ _ | exact Kd.S_nil _ _ _ _ _, by repeat (first | (with_reducible first | exact HB.out | apply qc_ | apply qx_ | apply qf_ | refine qg_ ?_ GE268.out | refine qg_ ?_ GE269.out) | exact HB.out)⟩
 ·replace c6 := Bool.eq_false_iff.mpr c6
  subst c6
  have H1 : (some (([] : List (List Int)), ([] : List Bool), ([] : List Int), false)) = some (r1, r2, r3, r4) := by rw [if_neg (show ¬ (false = true) by decide)] at H; exact H
  clear H
  have H := H1
  clear H1
  simp only [Option.some.injEq, Prod.mk.injEq] at H
  obtain ⟨rfl, rfl, rfl, rfl⟩ := H
  go_enter Try.func33, Try.ntmps33
  go_wp2_with (first | ((with_reducible refine gate_dst (N := 4) rfl ?_); refine box_event ?hg (N := 4) ?hd (cs := #[.slice A0_0 l0_0.length c0_0, .slice A0_1 l0_1.length c0_1, .slice A0_2 l0_2.length c0_2]) (t := 30) ?hr ?_; (case hd => rfl); (case hg => rfl); (case hr => first | (go_simp; done) | (go_simp; rfl)); intro gb268 hg w59 hbox hb; have n0_ := qm_ (qh_ (by repeat (first | (with_reducible first | exact HB.out | apply qc_ | apply qx_ | apply qf_) | exact HB.out)) hb); have n1_ := qm_ (hbox); have n2_ := qm_ ((by rw [hg]; exact (qz_ (by repeat (first | (with_reducible first | exact HB.out | apply qc_ | apply qx_ | apply qf_) | exact HB.out))) : w.heap.size ≤ gb268)); have n3_ := qm_ ((by rw [hg]; exact (qz_ (by repeat (first | (with_reducible first | exact HB.out | apply qc_ | apply qx_ | apply qf_) | exact HB.out))) : w.heap.size ≤ gb268)); clear HB; have HB := n0_; have BK268 := n1_; have GW268 := n2_; have GE268 := n3_; clear n0_ n1_ n2_ n3_; clear hb hbox hg) | ((with_reducible refine gate_dst (N := 8) rfl ?_); refine box_event ?hg (N := 8) ?hd (cs := #[.slice none 0 0, .slice none 0 0, .slice none 0 0]) (t := 30) ?hr ?_; (case hd => rfl); (case hg => rfl); (case hr => first | (go_simp; done) | (go_simp; rfl)); intro gb269 hg w60 hbox hb; have n0_ := qm_ (qs_ (g := gb268) (o := .cells #[.slice A0_0 l0_0.length c0_0, .slice A0_1 l0_1.length c0_1, .slice A0_2 l0_2.length c0_2] 30 (0, 0)) (by first | with_reducible exact BK268.out | with_reducible exact qu_ BK268.out _ | exact BK268.out | exact qw_ BK268.out _) hb); have n1_ := qm_ (qh_ (by repeat (first | (with_reducible first | exact HB.out | apply qc_ | apply qx_ | apply qf_ | refine qg_ ?_ GE268.out) | exact HB.out)) hb); have n2_ := qm_ (hbox); have n3_ := qm_ ((by rw [hg]; exact (qz_ (by repeat (first | (with_reducible first | exact HB.out | apply qc_ | apply qx_ | apply qf_ | refine qg_ ?_ GE268.out) | exact HB.out))) : w.heap.size ≤ gb269)); have n4_ := qm_ ((by rw [hg]; exact (qz_ (by repeat (first | (with_reducible first | exact HB.out | apply qc_ | apply qx_ | apply qf_ | refine qg_ ?_ GE268.out) | exact HB.out))) : w.heap.size ≤ gb269)); have n5_ := qm_ ((by rw [hg]; exact Nat.ne_of_lt (blk_lt (g := gb268) (o := .cells #[.slice A0_0 l0_0.length c0_0, .slice A0_1 l0_1.length c0_1, .slice A0_2 l0_2.length c0_2] 30 (0, 0)) (by first | with_reducible exact BK268.out | with_reducible exact qu_ BK268.out _ | exact BK268.out | exact qw_ BK268.out _)) : gb268 ≠ gb269)); have n6_ := qm_ ((by rw [hg]; exact Nat.ne_of_gt (blk_lt (g := gb268) (o := .cells #[.slice A0_0 l0_0.length c0_0, .slice A0_1 l0_1.length c0_1, .slice A0_2 l0_2.length c0_2] 30 (0, 0)) (by first | with_reducible exact BK268.out | with_reducible exact qu_ BK268.out _ | exact BK268.out | exact qw_ BK268.out _)) : gb269 ≠ gb268)); clear BK268; clear HB; have BK268 := n0_; have HB := n1_; have BK269 := n2_; have GW269 := n3_; have GE269 := n4_; have NB268_269 := n5_; have NB269_268 := n6_; clear n0_ n1_ n2_ n3_ n4_ n5_ n6_; clear hb hbox hg; have hnb61 := NB268_269.out; have hnc61 := NB269_268.out; have hcz62_0 : w60.cell? ⟨gb268, 0, none⟩ = some (.slice A0_0 l0_0.length c0_0) := (blk_cell BK268.out 0).trans rfl; have hcz62_1 : w60.cell? ⟨gb268, 1, none⟩ = some (.slice A0_1 l0_1.length c0_1) := (blk_cell BK268.out 1).trans rfl; have hcz62_2 : w60.cell? ⟨gb268, 2, none⟩ = some (.slice A0_2 l0_2.length c0_2) := (blk_cell BK268.out 2).trans rfl; have hfz62_0 := blk_frozen BK268.out 0; have hfz62_1 := blk_frozen BK268.out 1; have hfz62_2 := blk_frozen BK268.out 2) | ((with_reducible refine gate_callee (f := 71) rfl ?_); refine goesL_ (some 12) rfl rfl Try.func71 (by kernel_rfl) rfl #[.agg #[.slice A0_0 l0_0.length c0_0, .slice A0_1 l0_1.length c0_1, .slice A0_2 l0_2.length c0_2]] rfl (by (try simp only [List.map_toArray, List.map_cons, List.map_nil]); first | done | rfl | (simp only [List.length_drop, List.length_take]; rfl)) ?_; (with_reducible refine (impl_isHeap.calls k _ _ l0_0 _ _ l0_1 _ _ l0_2 false _ ?side1 ?side2 ?side3 ?side4 ?side5 ?side6 A5.out).mono ?_); (case side1 => repeat (first | exact (Kd.C_below HR0_0.out HB.out) | (with_reducible refine Kd.C_alloc ?_ _) | (with_reducible refine Kd.C_drewN ?_ _) | (with_reducible refine Kd.C_drew ?_))); (case side2 => exact HC0_0.out); (case side3 => repeat (first | exact (Kd.C_below HR0_1.out HB.out) | (with_reducible refine Kd.C_alloc ?_ _) | (with_reducible refine Kd.C_drewN ?_ _) | (with_reducible refine Kd.C_drew ?_))); (case side4 => exact HC0_1.out); (case side5 => repeat (first | exact (Kd.C_below HR0_2.out HB.out) | (with_reducible refine Kd.C_alloc ?_ _) | (with_reducible refine Kd.C_drewN ?_ _) | (with_reducible refine Kd.C_drew ?_))); (case side6 => exact HC0_2.out); rintro e w63 ⟨rfl, hb⟩; refine ⟨_, rfl, ?_⟩; have n0_ := qm_ (qs_ (g := gb268) (o := .cells #[.slice A0_0 l0_0.length c0_0, .slice A0_1 l0_1.length c0_1, .slice A0_2 l0_2.length c0_2] 30 (0, 0)) (by first | with_reducible exact BK268.out | with_reducible exact qu_ BK268.out _ | exact BK268.out | exact qw_ BK268.out _) hb); have n1_ := qm_ (qs_ (g := gb269) (o := .cells #[.slice none 0 0, .slice none 0 0, .slice none 0 0] 30 (0, 0)) (by first | with_reducible exact BK269.out | with_reducible exact qu_ BK269.out _ | exact BK269.out | exact qw_ BK269.out _) hb); have n2_ := qm_ (qh_ (by repeat (first | (with_reducible first | exact HB.out | apply qc_ | apply qx_ | apply qf_ | refine qg_ ?_ GE268.out | refine qg_ ?_ GE269.out) | exact HB.out)) hb); clear BK268; clear BK269; clear HB; have BK268 := n0_; have BK269 := n1_; have HB := n2_; clear n0_ n1_ n2_; (try clear hb); (try clear hb2); (try clear hk); (try clear hi); have hcz64_0 : w63.cell? ⟨gb269, 0, none⟩ = some (.slice none 0 0) := (blk_cell BK269.out 0).trans rfl; have hcz64_1 : w63.cell? ⟨gb269, 1, none⟩ = some (.slice none 0 0) := (blk_cell BK269.out 1).trans rfl; have hcz64_2 : w63.cell? ⟨gb269, 2, none⟩ = some (.slice none 0 0) := (blk_cell BK269.out 2).trans rfl; have hfz64_0 := blk_frozen BK269.out 0; have hfz64_1 := blk_frozen BK269.out 1; have hfz64_2 := blk_frozen BK269.out 2))
  refine bodyPost_ret (results_ct rfl _ _ gb269 30 #[.slice none 0 0, .slice none 0 0, .slice none 0 0] (0, 0) _ rfl (by (with_reducible repeat (first | refine qu_ ?_ _ | refine qv_ ?_ | refine qw_ ?_ _)); refine blk_put (cs := #[.slice none 0 0, .slice none 0 0, .slice none 0 0]) ?_ 2 _ rfl; (with_reducible repeat (first | refine qu_ ?_ _ | refine qv_ ?_ | refine qw_ ?_ _)); refine blk_put (cs := #[.slice none 0 0, .slice none 0 0, .slice none 0 0]) ?_ 1 _ rfl; (with_reducible repeat (first | refine qu_ ?_ _ | refine qv_ ?_ | refine qw_ ?_ _)); refine blk_put (cs := #[.slice none 0 0, .slice none 0 0, .slice none 0 0]) ?_ 0 _ rfl; (with_reducible repeat (first | refine qu_ ?_ _ | refine qv_ ?_ | refine qw_ ?_ _)); exact BK269.out) Try.underlying30 rfl (by kernel_rfl)) rfl ?_
  exact ⟨_, _, _, by first | rfl | (simp [errW_none, errW_some] <;> rfl) | (simp [*, errW_none, errW_some] <;> rfl), by first | exact Kd.S_nil _ _ _ _ _ | exact Kd.N_nil _ _ _ _ _ | exact Kd.V_nil _ _ _ _ _ | exact Kd.Q_nil _ _ _ _ _ | exact Kd.R_nil _ _ _ _ _, by first | exact Kd.R_nil _ _ _ _ _ | exact Kd.N_nil _ _ _ _ _ | exact Kd.V_nil _ _ _ _ _ | exact Kd.Q_nil _ _ _ _ _ | exact Kd.S_nil _ _ _ _ _, by first | exact Kd.R_nil _ _ _ _ _ | exact Kd.N_nil _ _ _ _ _ | exact Kd.V_nil _ _ _ _ _ | exact Kd.Q_nil _ _ _ _ _ | exact Kd.S_nil _ _ _ _ _, by repeat (first | (with_reducible first | exact HB.out | apply qc_ | apply qx_ | apply qf_ | refine qg_ ?_ GE268.out | refine qg_ ?_ GE269.out) | exact HB.out)⟩

/-! ### laws_markBoolS: function 28 -/
def laws_markBoolS.l0 : Nat → List Bool → Int → Int → Option (Int × List Bool)
 | 0, _, _, _ => none
 | k + 1, x0, x1, x5 => if x5 < (x0.length : Int) then (if 0 ≤ x5 then (laws_markBoolS.l0 k (x0.set (x5 : Int).toNat ((Int.tmod x1 3) == 0)) (wrap64 (x1 + 1)) (wrap64 (x5 + 1))) else (none)) else (some (x1, x0))
def laws_markBoolS.f (k : Nat) (l0 : List Bool) (a1 : Int) : Option (Int × List Bool) := laws_markBoolS.l0 k l0 a1 0
theorem laws_markBoolS.mono_l : ∀ k, (∀ y0 y1 y2, LeO (laws_markBoolS.l0 k y0 y1 y2) (laws_markBoolS.l0 (k + 1) y0 y1 y2))
 | 0 => fun _ _ _ r h => by simp [laws_markBoolS.l0] at h
 | k + 1 => by
  have ih0 := laws_markBoolS.mono_l k
  ·intro y0 y1 y2
   unfold laws_markBoolS.l0
   repeat' first
   | (with_reducible exact ih0 _ _ _)
   | (with_reducible exact LeO.refl _)
   | (with_reducible exact LeO.none _)
   | (with_reducible refine LeO.ite ?_ ?_)
   | (with_reducible refine LeO.bind ?_ (fun _ => ?_))
   | exact ih0 _ _ _
   | exact LeO.none _
   | refine LeO.ite ?_ ?_
   | refine LeO.bind ?_ (fun _ => ?_)
theorem laws_markBoolS.mono : ∀ a0 a1 k, LeO (laws_markBoolS.f k a0 a1) (laws_markBoolS.f (k + 1) a0 a1) := by
 intro a0 a1 k
 have ih0 := laws_markBoolS.mono_l k
 unfold laws_markBoolS.f
 repeat' first
   | (with_reducible exact ih0 _ _ _)
   | (with_reducible exact LeO.refl _)
   | (with_reducible exact LeO.none _)
   | (with_reducible refine LeO.ite ?_ ?_)
   | (with_reducible refine LeO.bind ?_ (fun _ => ?_))
   | exact ih0 _ _ _
   | exact LeO.none _
   | refine LeO.ite ?_ ?_
   | refine LeO.bind ?_ (fun _ => ?_)
set_option maxHeartbeats 8000000 in
set_option maxRecDepth 100000 in
theorem laws_markBoolS.calls (k : Nat) (P0_ : Nat → Prop) (u9000_ : Value) (l0 : List Bool) (a1 : Int) (r1 : Int) (r2 : List Bool) (w0 w : World) (hB : Below w0.heap.size w0 w) (ho0 : Kd.R Kd.bool 4 w w0.heap.size P0_ u9000_ l0) (h : laws_markBoolS.f k l0 a1 = some (r1, r2)) :
  Calls Try.prog 28 #[u9000_, .int .i64 a1] w fun e w' => e = .returned (.int .i64 r1) ∧ Kd.R Kd.bool 4 w' w0.heap.size (fun k_ => (P0_ k_ ∨ w.heap.size ≤ k_)) u9000_ r2 ∧ Below w0.heap.size w0 w' ∧ Kept w w' (fun k_ => P0_ k_) := by
 have HO0 := qm_ (show Kd.R Kd.bool 4 w w0.heap.size (fun k_ => (P0_ k_ ∨ w.heap.size ≤ k_)) u9000_ l0 from Kd.R_mono ho0 (fun k_ hk => (.inl hk)))
 have HK := qm_ (Kept.refl w (fun k_ => P0_ k_))
 have HW0 := qm_ hB.size
 have HB := qm_ hB
 clear hB
 have H : (laws_markBoolS.l0 k l0 a1 0) = some (r1, r2) := h
 clear h
 have H' := qm_ H
 clear H
 go_enter Try.func28, Try.ntmps28
 go_wp2
 go_loopg [1, 5] k (fun kq v1 v5 w' => ∃ (x0_1 : List Bool) (x1_1 : Int) (x5_1 : Int), v1 = .int .i64 x1_1 ∧ v5 = .int .i64 x5_1 ∧ Aside0 (laws_markBoolS.l0 kq x0_1 x1_1 x5_1 = some (r1, r2)) ∧ Aside0 (kq ≤ k) ∧ Aside0 (Kd.R Kd.bool 4 w' w0.heap.size (fun k_ => (P0_ k_ ∨ w.heap.size ≤ k_)) u9000_ x0_1) ∧ Aside0 (Kept w w' (fun k_ => P0_ k_)) ∧ Aside0 (Below w0.heap.size w0 w'))
 case atStart => exact ⟨(l0), (a1), (0), (by first | rfl | (simp; done) | (simp [*]; done)), (by first | rfl | (simp; done) | (simp [*]; done)), H', ⟨Nat.le_refl _⟩, ⟨by (with_reducible repeat (first | apply qa_ | apply qn_ | apply qd_)); exact HO0.out⟩, ⟨by repeat (first | (with_reducible first | exact HK.out | apply Kept.alloc | apply Kept.drewN | apply Kept.drew) | exact HK.out)⟩, ⟨by repeat (first | (with_reducible first | exact HB.out | apply qc_ | apply qx_ | apply qf_) | exact HB.out)⟩⟩
 case round =>
  clear H'
  try clear c2
  try clear p2
  obtain ⟨x0_1, x1_1, x5_1, rfl, rfl, HA, HK1, HO_0, HK, HB⟩ := hrel
  cases gk with
  | zero => exact absurd HA.out (by simp [laws_markBoolS.l0])
  | succ k1 =>
   have H := HA.out
   clear HA
   simp only [laws_markBoolS.l0] at H
   by_cases c3 : x5_1 < (x0_1.length : Int)
   ·rw [if_pos c3] at H
    have c3b0 : decide (x5_1 < (x0_1.length : Int)) = true := decide_eq_true c3
    clear c3
    by_cases c4 : 0 ≤ x5_1
    ·rw [if_pos c4] at H
     have c4b0 : decide (0 ≤ x5_1) = true := decide_eq_true c4
     clear c4
     obtain ⟨y288, hy288⟩ : ∃ y_ : List Bool, y_ = (x0_1.set (x5_1 : Int).toNat ((Int.tmod x1_1 3) == 0)) := ⟨_, rfl⟩
     replace H : (laws_markBoolS.l0 k1 y288 (wrap64 (x1_1 + 1)) (wrap64 (x5_1 + 1))) = some (r1, r2) := by first | (rw [hy288]; with_reducible exact H) | (have H2_ := (Option.bind_some _ _).symm.trans H; rw [hy288]; with_reducible exact H2_) | (have H2_ := (Option.bind_some _ _).symm.trans H; with_reducible exact H2_) | with_reducible exact H | (rw [hy288]; exact H) | exact H
     have Ny288 := qm_ hy288
     clear hy288
     have H' := qm_ H
     clear H
     obtain ⟨Ao6, co6, eo6⟩ := Kd.R_slice HO_0.out
     subst eo6
     have p5 : 0 ≤ (x5_1 : Int) := of_decide_eq_true (by first | (with_reducible assumption) | assumption)
     have q5 : (x5_1 : Int) < ((x0_1.length : Int) : Int) := of_decide_eq_true (by first | (with_reducible assumption) | assumption)
     obtain ⟨go5, co5, eo5, gb5, gl5, cl5, HG5⟩ := Kd.R_form HO_0.out (by omega)
     (first | cases eo5 | (injection eo5 with ea_ en_ ec_; (first | subst ea_ | (injection ea_ with ea_; subst ea_)); subst ec_; clear en_))
     have GB5 := qm_ gb5
     have GG5 := qm_ HG5
     clear gb5 gl5 HG5
     have HMgo5 := qm_ (show (P0_ go5 ∨ w.heap.size ≤ go5) from (HO_0.out.1 _ rfl))
     obtain ⟨hx5_0, hf5_0⟩ := Kd.R_celln false HO_0.out (x5_1 : Int) p5 q5
     replace p5 := eq_true p5
     replace q5 := eq_true q5
     have HP7 := Kd.R_putg HO_0.out (x5_1 : Int) ((Int.tmod x1_1 3) == 0)
     go_wp2_with (first | ((with_reducible refine gate_store (t := 4) (p := 17) rfl ?_); refine store_event (t := 4) (p := 17) (v := ?vo_w8) (w1 := (wr.setCell ⟨go5, (x5_1 : Int).toNat, none⟩ (.bool ((Int.tmod x1_1 3) == 0)))) ?hg ?ho ?hn ?hr ?_; (case ho => rfl); (case hg => rfl); (case hn => rfl); (case hr => first | (go_simp; done) | (go_simp; rfl)); intro w8 hw; have hg : wr.grownBy w8 (some go5) := (by rw [hw]; exact HP7.2); have hp_ : Kd.R Kd.bool 4 w8 w0.heap.size (fun k_ => (P0_ k_ ∨ w.heap.size ≤ k_)) (.slice (some ⟨go5, 0, none⟩) x0_1.length co6) y288 := (by rw [hw, Ny288.out]; exact HP7.1); clear HP7; have n0_ := qm_ (hp_); have n1_ := qm_ ((by rw [hw]; exact qg_ (HB.out) GB5.out : Below w0.heap.size w0 w8)); have n2_ := qm_ (Kept.of_grown (S := (fun k_ => P0_ k_)) hg (by repeat (first | (with_reducible first | exact HK.out | apply Kept.alloc | apply Kept.drewN | apply Kept.drew) | exact HK.out)) (fun k_ e_ => (HO_0.out.1 k_ e_))); clear HO_0; clear HB; clear HK; have HO_0 := n0_; have HB := n1_; have HK := n2_; clear n0_ n1_ n2_; clear hg hw hp_))
     go_roundg k1
     case measure => have := HK1.out; omega
     case rel => exact ⟨(y288), (wrap64 (x1_1 + 1)), (wrap64 (x5_1 + 1)), (by first | rfl | (simp; done) | (simp [*]; done)), (by first | rfl | (simp; done) | (simp [*]; done)), H', ⟨by have := HK1.out; omega⟩, ⟨by (with_reducible repeat (first | apply qa_ | apply qn_ | apply qd_)); exact HO_0.out⟩, ⟨by repeat (first | (with_reducible first | exact HK.out | apply Kept.alloc | apply Kept.drewN | apply Kept.drew) | exact HK.out)⟩, ⟨by repeat (first | (with_reducible first | exact HB.out | apply qc_ | apply qx_ | apply qf_) | exact HB.out)⟩⟩
    ·rw [if_neg c4] at H
     exact absurd H (by simp)
   ·rw [if_neg c3] at H
    have c3b0 : decide (x5_1 < (x0_1.length : Int)) = false := decide_eq_false c3
    clear c3
    simp only [Option.some.injEq, Prod.mk.injEq] at H
    obtain ⟨rfl, rfl⟩ := H
    obtain ⟨Ao9, co9, eo9⟩ := Kd.R_slice HO_0.out
    subst eo9
    go_wp2
    go_ret
    exact ⟨by first | rfl | (simp [errW_none, errW_some] <;> rfl) | (simp [*, errW_none, errW_some] <;> rfl), by (with_reducible repeat (first | apply qa_ | apply qn_ | apply qd_)); exact HO_0.out, by repeat (first | (with_reducible first | exact HB.out | apply qc_ | apply qx_ | apply qf_) | exact HB.out), by repeat (first | (with_reducible first | exact HK.out | apply Kept.alloc | apply Kept.drewN | apply Kept.drew) | exact HK.out)⟩

/-! ### laws_markIntS: function 40 -/
def laws_markIntS.l0 : Nat → List Int → Int → Int → Option (Int × List Int)
 | 0, _, _, _ => none
 | k + 1, x0, x1, x5 => if x5 < (x0.length : Int) then (if 0 ≤ x5 then (laws_markIntS.l0 k (x0.set (x5 : Int).toNat x1) (wrap64 (x1 + 1)) (wrap64 (x5 + 1))) else (none)) else (some (x1, x0))
def laws_markIntS.f (k : Nat) (l0 : List Int) (a1 : Int) : Option (Int × List Int) := laws_markIntS.l0 k l0 a1 0
theorem laws_markIntS.mono_l : ∀ k, (∀ y0 y1 y2, LeO (laws_markIntS.l0 k y0 y1 y2) (laws_markIntS.l0 (k + 1) y0 y1 y2))
 | 0 => fun _ _ _ r h => by simp [laws_markIntS.l0] at h
 | k + 1 => by
  have ih0 := laws_markIntS.mono_l k
  ·intro y0 y1 y2
   unfold laws_markIntS.l0
   repeat' first
   | (with_reducible exact ih0 _ _ _)
   | (with_reducible exact LeO.refl _)
   | (with_reducible exact LeO.none _)
   | (with_reducible refine LeO.ite ?_ ?_)
   | (with_reducible refine LeO.bind ?_ (fun _ => ?_))
   | exact ih0 _ _ _
   | exact LeO.none _
   | refine LeO.ite ?_ ?_
   | refine LeO.bind ?_ (fun _ => ?_)
theorem laws_markIntS.mono : ∀ a0 a1 k, LeO (laws_markIntS.f k a0 a1) (laws_markIntS.f (k + 1) a0 a1) := by
 intro a0 a1 k
 have ih0 := laws_markIntS.mono_l k
 unfold laws_markIntS.f
 repeat' first
   | (with_reducible exact ih0 _ _ _)
   | (with_reducible exact LeO.refl _)
   | (with_reducible exact LeO.none _)
   | (with_reducible refine LeO.ite ?_ ?_)
   | (with_reducible refine LeO.bind ?_ (fun _ => ?_))
   | exact ih0 _ _ _
   | exact LeO.none _
   | refine LeO.ite ?_ ?_
   | refine LeO.bind ?_ (fun _ => ?_)
set_option maxHeartbeats 8000000 in
set_option maxRecDepth 100000 in
theorem laws_markIntS.calls (k : Nat) (P0_ : Nat → Prop) (u9000_ : Value) (l0 : List Int) (a1 : Int) (r1 : Int) (r2 : List Int) (w0 w : World) (hB : Below w0.heap.size w0 w) (ho0 : Kd.R (Kd.int .i64) 3 w w0.heap.size P0_ u9000_ l0) (h : laws_markIntS.f k l0 a1 = some (r1, r2)) :
  Calls Try.prog 40 #[u9000_, .int .i64 a1] w fun e w' => e = .returned (.int .i64 r1) ∧ Kd.R (Kd.int .i64) 3 w' w0.heap.size (fun k_ => (P0_ k_ ∨ w.heap.size ≤ k_)) u9000_ r2 ∧ Below w0.heap.size w0 w' ∧ Kept w w' (fun k_ => P0_ k_) := by
 have HO0 := qm_ (show Kd.R (Kd.int .i64) 3 w w0.heap.size (fun k_ => (P0_ k_ ∨ w.heap.size ≤ k_)) u9000_ l0 from Kd.R_mono ho0 (fun k_ hk => (.inl hk)))
 have HK := qm_ (Kept.refl w (fun k_ => P0_ k_))
 have HW0 := qm_ hB.size
 have HB := qm_ hB
 clear hB
 have H : (laws_markIntS.l0 k l0 a1 0) = some (r1, r2) := h
 clear h
 have H' := qm_ H
 clear H
 go_enter Try.func40, Try.ntmps40
 go_wp2
 go_loopg [1, 5] k (fun kq v1 v5 w' => ∃ (x0_1 : List Int) (x1_1 : Int) (x5_1 : Int), v1 = .int .i64 x1_1 ∧ v5 = .int .i64 x5_1 ∧ Aside0 (laws_markIntS.l0 kq x0_1 x1_1 x5_1 = some (r1, r2)) ∧ Aside0 (kq ≤ k) ∧ Aside0 (Kd.R (Kd.int .i64) 3 w' w0.heap.size (fun k_ => (P0_ k_ ∨ w.heap.size ≤ k_)) u9000_ x0_1) ∧ Aside0 (Kept w w' (fun k_ => P0_ k_)) ∧ Aside0 (Below w0.heap.size w0 w'))
 case atStart => exact ⟨(l0), (a1), (0), (by first | rfl | (simp; done) | (simp [*]; done)), (by first | rfl | (simp; done) | (simp [*]; done)), H', ⟨Nat.le_refl _⟩, ⟨by (with_reducible repeat (first | apply qa_ | apply qn_ | apply qd_)); exact HO0.out⟩, ⟨by repeat (first | (with_reducible first | exact HK.out | apply Kept.alloc | apply Kept.drewN | apply Kept.drew) | exact HK.out)⟩, ⟨by repeat (first | (with_reducible first | exact HB.out | apply qc_ | apply qx_ | apply qf_) | exact HB.out)⟩⟩
 case round =>
  clear H'
  try clear p2
  obtain ⟨x0_1, x1_1, x5_1, rfl, rfl, HA, HK1, HO_0, HK, HB⟩ := hrel
  cases gk with
  | zero => exact absurd HA.out (by simp [laws_markIntS.l0])
  | succ k1 =>
   have H := HA.out
   clear HA
   simp only [laws_markIntS.l0] at H
   by_cases c3 : x5_1 < (x0_1.length : Int)
   ·rw [if_pos c3] at H
    have c3b0 : decide (x5_1 < (x0_1.length : Int)) = true := decide_eq_true c3
    clear c3
    by_cases c4 : 0 ≤ x5_1
    ·rw [if_pos c4] at H
     have c4b0 : decide (0 ≤ x5_1) = true := decide_eq_true c4
     clear c4
     obtain ⟨y289, hy289⟩ : ∃ y_ : List Int, y_ = (x0_1.set (x5_1 : Int).toNat x1_1) := ⟨_, rfl⟩
     replace H : (laws_markIntS.l0 k1 y289 (wrap64 (x1_1 + 1)) (wrap64 (x5_1 + 1))) = some (r1, r2) := by first | (rw [hy289]; with_reducible exact H) | (have H2_ := (Option.bind_some _ _).symm.trans H; rw [hy289]; with_reducible exact H2_) | (have H2_ := (Option.bind_some _ _).symm.trans H; with_reducible exact H2_) | with_reducible exact H | (rw [hy289]; exact H) | exact H
     have Ny289 := qm_ hy289
     clear hy289
     have H' := qm_ H
     clear H
     obtain ⟨Ao6, co6, eo6⟩ := Kd.R_slice HO_0.out
     subst eo6
     have p5 : 0 ≤ (x5_1 : Int) := of_decide_eq_true (by first | (with_reducible assumption) | assumption)
     have q5 : (x5_1 : Int) < ((x0_1.length : Int) : Int) := of_decide_eq_true (by first | (with_reducible assumption) | assumption)
     obtain ⟨go5, co5, eo5, gb5, gl5, cl5, HG5⟩ := Kd.R_form HO_0.out (by omega)
     (first | cases eo5 | (injection eo5 with ea_ en_ ec_; (first | subst ea_ | (injection ea_ with ea_; subst ea_)); subst ec_; clear en_))
     have GB5 := qm_ gb5
     have GG5 := qm_ HG5
     clear gb5 gl5 HG5
     have HMgo5 := qm_ (show (P0_ go5 ∨ w.heap.size ≤ go5) from (HO_0.out.1 _ rfl))
     obtain ⟨hx5_0, hf5_0⟩ := Kd.R_celln 0 HO_0.out (x5_1 : Int) p5 q5
     replace p5 := eq_true p5
     replace q5 := eq_true q5
     have HP7 := Kd.R_putg HO_0.out (x5_1 : Int) x1_1
     go_wp2_with (first | ((with_reducible refine gate_store (t := 3) (p := 15) rfl ?_); refine store_event (t := 3) (p := 15) (v := ?vo_w8) (w1 := (wr.setCell ⟨go5, (x5_1 : Int).toNat, none⟩ (.int .i64 x1_1))) ?hg ?ho ?hn ?hr ?_; (case ho => rfl); (case hg => rfl); (case hn => rfl); (case hr => first | (go_simp; done) | (go_simp; rfl)); intro w8 hw; have hg : wr.grownBy w8 (some go5) := (by rw [hw]; exact HP7.2); have hp_ : Kd.R (Kd.int .i64) 3 w8 w0.heap.size (fun k_ => (P0_ k_ ∨ w.heap.size ≤ k_)) (.slice (some ⟨go5, 0, none⟩) x0_1.length co6) y289 := (by rw [hw, Ny289.out]; exact HP7.1); clear HP7; have n0_ := qm_ (hp_); have n1_ := qm_ ((by rw [hw]; exact qg_ (HB.out) GB5.out : Below w0.heap.size w0 w8)); have n2_ := qm_ (Kept.of_grown (S := (fun k_ => P0_ k_)) hg (by repeat (first | (with_reducible first | exact HK.out | apply Kept.alloc | apply Kept.drewN | apply Kept.drew) | exact HK.out)) (fun k_ e_ => (HO_0.out.1 k_ e_))); clear HO_0; clear HB; clear HK; have HO_0 := n0_; have HB := n1_; have HK := n2_; clear n0_ n1_ n2_; clear hg hw hp_))
     go_roundg k1
     case measure => have := HK1.out; omega
     case rel => exact ⟨(y289), (wrap64 (x1_1 + 1)), (wrap64 (x5_1 + 1)), (by first | rfl | (simp; done) | (simp [*]; done)), (by first | rfl | (simp; done) | (simp [*]; done)), H', ⟨by have := HK1.out; omega⟩, ⟨by (with_reducible repeat (first | apply qa_ | apply qn_ | apply qd_)); exact HO_0.out⟩, ⟨by repeat (first | (with_reducible first | exact HK.out | apply Kept.alloc | apply Kept.drewN | apply Kept.drew) | exact HK.out)⟩, ⟨by repeat (first | (with_reducible first | exact HB.out | apply qc_ | apply qx_ | apply qf_) | exact HB.out)⟩⟩
    ·rw [if_neg c4] at H
     exact absurd H (by simp)
   ·rw [if_neg c3] at H
    have c3b0 : decide (x5_1 < (x0_1.length : Int)) = false := decide_eq_false c3
    clear c3
    simp only [Option.some.injEq, Prod.mk.injEq] at H
    obtain ⟨rfl, rfl⟩ := H
    obtain ⟨Ao9, co9, eo9⟩ := Kd.R_slice HO_0.out
    subst eo9
    go_wp2
    go_ret
    exact ⟨by first | rfl | (simp [errW_none, errW_some] <;> rfl) | (simp [*, errW_none, errW_some] <;> rfl), by (with_reducible repeat (first | apply qa_ | apply qn_ | apply qd_)); exact HO_0.out, by repeat (first | (with_reducible first | exact HB.out | apply qc_ | apply qx_ | apply qf_) | exact HB.out), by repeat (first | (with_reducible first | exact HK.out | apply Kept.alloc | apply Kept.drewN | apply Kept.drew) | exact HK.out)⟩

/-! ### laws_markIntSS: function 75 (typed by hand: the rows of a row of rows, each handed to markIntS) -/
def laws_markIntSS.l0 : Nat → List (List Int) → Int → Int → Option (Int × (List (List Int)))
  | 0, _, _, _ => none
  | k + 1, x0, x1, x5 => if x5 < (x0.length : Int) then (if 0 ≤ x5 then ((laws_markIntS.f k (x0.getD (x5 : Int).toNat []) x1).bind fun b => laws_markIntSS.l0 k (x0.set (x5 : Int).toNat b.2) b.1 (wrap64 (x5 + 1))) else (none)) else (some (x1, x0))
def laws_markIntSS.f (k : Nat) (l0 : List (List Int)) (a1 : Int) : Option (Int × (List (List Int))) := laws_markIntSS.l0 k l0 a1 0
theorem laws_markIntSS.mono_l : ∀ k, (∀ y0 y1 y2, LeO (laws_markIntSS.l0 k y0 y1 y2) (laws_markIntSS.l0 (k + 1) y0 y1 y2))
  | 0 => fun _ _ _ r h => by simp [laws_markIntSS.l0] at h
  | k + 1 => by
    have ih0 := laws_markIntSS.mono_l k
    intro y0 y1 y2
    unfold laws_markIntSS.l0
    refine LeO.ite (LeO.ite ?_ (LeO.none _)) (LeO.refl _)
    exact LeO.bind (laws_markIntS.mono _ _ _) (fun _ => ih0 _ _ _)
theorem laws_markIntSS.mono : ∀ a0 a1 k, LeO (laws_markIntSS.f k a0 a1) (laws_markIntSS.f (k + 1) a0 a1) := fun _ _ k => laws_markIntSS.mono_l k _ _ _
set_option maxHeartbeats 8000000 in
set_option maxRecDepth 100000 in
theorem laws_markIntSS.calls (k : Nat) (P0_ : Nat → Prop) (u9000_ : Value) (l0 : List (List Int)) (a1 : Int) (r1 : Int) (r2 : List (List Int)) (w0 w : World) (hB : Below w0.heap.size w0 w) (ho0 : Kd.S (Kd.slice 3 (Kd.int .i64)) 24 w w0.heap.size P0_ u9000_ l0) (h : laws_markIntSS.f k l0 a1 = some (r1, r2)) :
    Calls Try.prog 75 #[u9000_, .int .i64 a1] w fun e w' => e = .returned (.int .i64 r1) ∧ Kd.S (Kd.slice 3 (Kd.int .i64)) 24 w' w0.heap.size (fun k_ => (P0_ k_ ∨ w.heap.size ≤ k_)) u9000_ r2 ∧ Below w0.heap.size w0 w' ∧ Kept w w' (fun k_ => P0_ k_) := by
  have HO0 := Aside0.mk (show Kd.S (Kd.slice 3 (Kd.int .i64)) 24 w w0.heap.size (fun k_ => (P0_ k_ ∨ w.heap.size ≤ k_)) u9000_ l0 from Kd.S_mono ho0 (fun k_ hk => (.inl hk)))
  have HK := Aside0.mk (Kept.refl w (fun k_ => P0_ k_))
  have HW0 := Aside0.mk hB.size
  have HB := Aside0.mk hB
  clear hB
  have H : (laws_markIntSS.l0 k l0 a1 0) = some (r1, r2) := h
  clear h
  have H' := Aside0.mk H
  clear H
  go_enter Try.func75, Try.ntmps75
  go_wp2
  go_loopg [1, 5] k (fun kq v1 v5 w' => ∃ (x0_1 : List (List Int)) (x1_1 : Int) (x5_1 : Int), v1 = .int .i64 x1_1 ∧ v5 = .int .i64 x5_1 ∧ Aside0 (laws_markIntSS.l0 kq x0_1 x1_1 x5_1 = some (r1, r2)) ∧ Aside0 (kq ≤ k) ∧ Aside0 (Kd.S (Kd.slice 3 (Kd.int .i64)) 24 w' w0.heap.size (fun k_ => (P0_ k_ ∨ w.heap.size ≤ k_)) u9000_ x0_1) ∧ Aside0 (Kept w w' (fun k_ => P0_ k_)) ∧ Aside0 (Below w0.heap.size w0 w'))
  case atStart => exact ⟨(l0), (a1), (0), (by first | rfl | (simp; done) | (simp [*]; done)), (by first | rfl | (simp; done) | (simp [*]; done)), H', ⟨Nat.le_refl _⟩, ⟨by (with_reducible repeat (first | apply Kd.S_alloc | apply Kd.S_drewN | apply Kd.S_drew)); exact HO0.out⟩, ⟨by repeat (first | (with_reducible first | exact HK.out | apply Kept.alloc | apply Kept.drewN | apply Kept.drew) | exact HK.out)⟩, ⟨by repeat (first | (with_reducible first | exact HB.out | apply below_alloc | apply pw_below_drewN | apply below_drew1) | exact HB.out)⟩⟩
  case round =>
    clear H'
    try clear c1
    try clear p2
    obtain ⟨x0_1, x1_1, x5_1, rfl, rfl, HA, HK1, HO_0, HK, HB⟩ := hrel
    cases gk with
    | zero => exact absurd HA.out (by simp [laws_markIntSS.l0])
    | succ k1 =>
      have H := HA.out
      clear HA
      simp only [laws_markIntSS.l0] at H
      by_cases c3 : x5_1 < (x0_1.length : Int)
      · rw [if_pos c3] at H
        have c3b0 : decide (x5_1 < (x0_1.length : Int)) = true := decide_eq_true c3
        by_cases c4 : 0 ≤ x5_1
        · rw [if_pos c4] at H
          have c4b0 : decide (0 ≤ x5_1) = true := decide_eq_true c4
          replace H := Option.bind_eq_some_iff.mp H
          obtain ⟨⟨t1, t2⟩, A0, H⟩ := H
          replace H : (laws_markIntSS.l0 k1 (x0_1.set (x5_1 : Int).toNat t2) t1 (wrap64 (x5_1 + 1))) = some (r1, r2) := H
          have A := Aside0.mk A0
          clear A0
          have H' := Aside0.mk H
          clear H
          have hlen : 0 < x0_1.length := by omega
          obtain ⟨go5, co5, eo5, gb5, gl5, cl5, HG5⟩ := Kd.S_form HO_0.out hlen
          clear cl5 HG5
          subst eo5
          have p5 : 0 ≤ (x5_1 : Int) := c4
          have q5 : (x5_1 : Int) < ((x0_1.length : Nat) : Int) := c3
          clear c3 c4
          obtain ⟨oki, ce, hcl, hM, hcc, hoki, hH⟩ := Kd.S_lend HO_0.out [] x5_1 p5 q5
          obtain ⟨ve, rfl, hR⟩ := hM
          have hx5_0 := hcc 0 ve rfl
          simp only [show ((Kd.slice 3 (Kd.int .i64))).sz = 1 from rfl, Nat.mul_one, Nat.add_zero] at hx5_0
          clear hcc hcl
          have HH := Aside0.mk hH
          have HOI := Aside0.mk hoki
          have HR := Aside0.mk hR
          clear hH hoki hR
          replace p5 := eq_true p5
          replace q5 := eq_true q5
          go_wp2_with (first | ((with_reducible refine gate_callee (f := 40) rfl ?_); refine goesL_ (some 17) rfl rfl Try.func40 (by kernel_rfl) rfl #[ve, .int .i64 x1_1] rfl (by (try simp only [List.map_toArray, List.map_cons, List.map_nil]); first | done | rfl | (simp only [List.length_drop, List.length_take]; rfl)) ?_; (refine (laws_markIntS.calls k1 oki ve _ x1_1 t1 t2 w0 _ ?side1 ?side2 A.out).mono ?_); (case side1 => exact HB.out); (case side2 => exact HR.out); rintro e w60 ⟨rfl, hy, hb, hkp⟩; refine ⟨_, rfl, ?_⟩; have n0_ := Aside0.mk (Kd.H_back (Kd.H_step (Kd.H_widen HH.out) (fun k_ _ hn_ hlt_ => hkp.2 k_ hlt_ (fun ho_ => hn_ (.inl ho_)))) (Kd.M_row (Kd.R_mono hy (ok' := fun k_ => oki k_ ∨ (P0_ k_ ∨ w.heap.size ≤ k_) ∧ _ ≤ k_) (fun k_ hk_ => Or.elim hk_ (fun h_ => .inl h_) (fun h_ => .inr ⟨.inr (Nat.le_trans HK.out.1 h_), h_⟩)))) (fun _ h_ => h_)); have n1_ := Aside0.mk hb; have n2_ := Aside0.mk (Kept.then_ (S := (fun k_ => P0_ k_)) HK.out hkp (fun k_ hs_ => (HOI.out k_ hs_).1)); clear HO_0; clear HB; clear HK; have HO_0 := n0_; have HB := n1_; have HK := n2_; clear n0_ n1_ n2_ hy hb hkp))
          go_roundg k1
          case measure => have := HK1.out; omega
          case rel => exact ⟨_, t1, (wrap64 (x5_1 + 1)), (by first | rfl | (simp; done) | (simp [*]; done)), (by first | rfl | (simp; done) | (simp [*]; done)), H', ⟨by have := HK1.out; omega⟩, ⟨by (with_reducible repeat (first | apply Kd.S_alloc | apply Kd.S_drewN | apply Kd.S_drew)); exact HO_0.out⟩, ⟨by repeat (first | (with_reducible first | exact HK.out | apply Kept.alloc | apply Kept.drewN | apply Kept.drew) | exact HK.out)⟩, ⟨by repeat (first | (with_reducible first | exact HB.out | apply below_alloc | apply pw_below_drewN | apply below_drew1) | exact HB.out)⟩⟩
        · rw [if_neg c4] at H
          exact absurd H (by simp)
      · rw [if_neg c3] at H
        have c3b0 : decide (x5_1 < (x0_1.length : Int)) = false := decide_eq_false c3
        clear c3
        simp only [Option.some.injEq, Prod.mk.injEq] at H
        obtain ⟨rfl, rfl⟩ := H
        obtain ⟨Ao9, co9, eo9⟩ := Kd.S_slice HO_0.out
        subst eo9
        go_wp2
        go_ret
        exact ⟨by first | rfl | (simp [errW_none, errW_some] <;> rfl) | (simp [*, errW_none, errW_some] <;> rfl), by (with_reducible repeat (first | apply Kd.S_alloc | apply Kd.S_drewN | apply Kd.S_drew)); exact HO_0.out, by repeat (first | (with_reducible first | exact HB.out | apply below_alloc | apply pw_below_drewN | apply below_drew1) | exact HB.out), by repeat (first | (with_reducible first | exact HK.out | apply Kept.alloc | apply Kept.drewN | apply Kept.drew) | exact HK.out)⟩

/-! ### laws_markHeap: function 34 -/
def laws_markHeap.f (k : Nat) (l0_0 : List (List Int)) (l0_1 : List Bool) (l0_2 : List Int) (a1 : Int) : Option (Int × (List (List Int)) × List Bool × List Int) := (laws_markIntSS.f k l0_0 a1).bind fun bt291 => ((laws_markBoolS.f k l0_1 bt291.1).bind fun bt293 => ((laws_markIntS.f k l0_2 bt293.1).bind fun bt295 => (some (bt295.1, bt291.2, bt293.2, bt295.2))))
theorem laws_markHeap.mono : ∀ a0 a1 a2 a3 k, LeO (laws_markHeap.f k a0 a1 a2 a3) (laws_markHeap.f (k + 1) a0 a1 a2 a3) := by
 intro a0 a1 a2 a3 k
 unfold laws_markHeap.f
 repeat' first
   | (with_reducible exact laws_markBoolS.mono _ _ _)
   | (with_reducible exact laws_markIntS.mono _ _ _)
   | (with_reducible exact laws_markIntSS.mono _ _ _)
   | (with_reducible exact LeO.refl _)
   | (with_reducible exact LeO.none _)
   | (with_reducible refine LeO.ite ?_ ?_)
   | (with_reducible refine LeO.bind ?_ (fun _ => ?_))
   | exact laws_markBoolS.mono _ _ _
   | exact laws_markIntS.mono _ _ _
   | exact laws_markIntSS.mono _ _ _
   | exact LeO.none _
   | refine LeO.ite ?_ ?_
   | refine LeO.bind ?_ (fun _ => ?_)
set_option maxHeartbeats 8000000 in
set_option maxRecDepth 100000 in
theorem laws_markHeap.calls (k : Nat) (P0_0_ : Nat → Prop) (u9000_ : Value) (l0_0 : List (List Int)) (P0_1_ : Nat → Prop) (u9001_ : Value) (l0_1 : List Bool) (P0_2_ : Nat → Prop) (u9002_ : Value) (l0_2 : List Int) (a1 : Int) (r1 : Int) (r2 : List (List Int)) (r3 : List Bool) (r4 : List Int) (w0 w : World) (hB : Below w0.heap.size w0 w) (ho0_0 : Kd.S (Kd.slice 3 (Kd.int .i64)) 24 w w0.heap.size P0_0_ u9000_ l0_0) (hp0_0_0_2 : ∀ k_, P0_0_ k_ → ¬ P0_2_ k_) (ho0_1 : Kd.R Kd.bool 4 w w0.heap.size P0_1_ u9001_ l0_1) (ho0_2 : Kd.R (Kd.int .i64) 3 w w0.heap.size P0_2_ u9002_ l0_2) (h : laws_markHeap.f k l0_0 l0_1 l0_2 a1 = some (r1, r2, r3, r4)) :
  Calls Try.prog 34 #[.agg #[u9000_, u9001_, u9002_], .int .i64 a1] w fun e w' => e = .returned (.int .i64 r1) ∧ Kd.S (Kd.slice 3 (Kd.int .i64)) 24 w' w0.heap.size (fun k_ => ((P0_0_ k_ ∨ P0_1_ k_ ∨ P0_2_ k_) ∨ w.heap.size ≤ k_)) u9000_ r2 ∧ Kd.R Kd.bool 4 w' w0.heap.size (fun k_ => ((P0_0_ k_ ∨ P0_1_ k_ ∨ P0_2_ k_) ∨ w.heap.size ≤ k_)) u9001_ r3 ∧ Kd.R (Kd.int .i64) 3 w' w0.heap.size (fun k_ => ((P0_0_ k_ ∨ P0_1_ k_ ∨ P0_2_ k_) ∨ w.heap.size ≤ k_)) u9002_ r4 ∧ Below w0.heap.size w0 w' ∧ Kept w w' (fun k_ => P0_0_ k_ ∨ P0_1_ k_ ∨ P0_2_ k_) := by
 have hu30 := Try.underlying30
 have HO0_0 := qm_ (show Kd.S (Kd.slice 3 (Kd.int .i64)) 24 w w0.heap.size (fun k_ => ((P0_0_ k_ ∨ P0_1_ k_ ∨ P0_2_ k_) ∨ w.heap.size ≤ k_) ∧ some k_ ≠ (u9002_ : Value).ownBlock) u9000_ l0_0 from Kd.S_mono ho0_0 (fun k_ hk => ⟨(.inl (.inl hk)), fun e_ => hp0_0_0_2 k_ hk (ho0_2.1 k_ e_.symm)⟩))
 have HO0_1 := qm_ (show Kd.R Kd.bool 4 w w0.heap.size (fun k_ => ((P0_0_ k_ ∨ P0_1_ k_ ∨ P0_2_ k_) ∨ w.heap.size ≤ k_)) u9001_ l0_1 from Kd.R_mono ho0_1 (fun k_ hk => (.inl (.inr (.inl hk)))))
 have HO0_2 := qm_ (show Kd.R (Kd.int .i64) 3 w w0.heap.size (fun k_ => ((P0_0_ k_ ∨ P0_1_ k_ ∨ P0_2_ k_) ∨ w.heap.size ≤ k_)) u9002_ l0_2 from Kd.R_mono ho0_2 (fun k_ hk => (.inl (.inr (.inr hk)))))
 have HK := qm_ (Kept.refl w (fun k_ => P0_0_ k_ ∨ P0_1_ k_ ∨ P0_2_ k_))
 have HW0 := qm_ hB.size
 have HB := qm_ hB
 clear hB
 have H : ((laws_markIntSS.f k l0_0 a1).bind fun bt291 => ((laws_markBoolS.f k l0_1 bt291.1).bind fun bt293 => ((laws_markIntS.f k l0_2 bt293.1).bind fun bt295 => (some (bt295.1, bt291.2, bt293.2, bt295.2))))) = some (r1, r2, r3, r4) := h
 clear h
 replace H := Option.bind_eq_some_iff.mp H
 obtain ⟨⟨t291, t292⟩, A30, H⟩ := H
 replace H : ((laws_markBoolS.f k l0_1 t291).bind fun bt293 => ((laws_markIntS.f k l0_2 bt293.1).bind fun bt295 => (some (bt295.1, t292, bt293.2, bt295.2)))) = some (r1, r2, r3, r4) := H
 have A3 := qm_ A30
 clear A30
 replace H := Option.bind_eq_some_iff.mp H
 obtain ⟨⟨t293, t294⟩, A40, H⟩ := H
 replace H : ((laws_markIntS.f k l0_2 t293).bind fun bt295 => (some (bt295.1, t292, t294, bt295.2))) = some (r1, r2, r3, r4) := H
 have A4 := qm_ A40
 clear A40
 replace H := Option.bind_eq_some_iff.mp H
 obtain ⟨⟨t295, t296⟩, A50, H⟩ := H
 replace H : (some (t295, t292, t294, t296)) = some (r1, r2, r3, r4) := H
 have A5 := qm_ A50
 clear A50
 simp only [Option.some.injEq, Prod.mk.injEq] at H
 obtain ⟨rfl, rfl, rfl, rfl⟩ := H
 obtain ⟨Ao6, co6, eo6⟩ := Kd.S_slice HO0_0.out
 subst eo6
 obtain ⟨Ao7, co7, eo7⟩ := Kd.R_slice HO0_1.out
 subst eo7
 obtain ⟨Ao8, co8, eo8⟩ := Kd.R_slice HO0_2.out
 subst eo8
 go_enter Try.func34, Try.ntmps34
 go_wp2_with (first | ((with_reducible refine gate_dst (N := 2) rfl ?_); refine box_event ?hg (N := 2) ?hd (cs := #[.slice Ao6 l0_0.length co6, .slice Ao7 l0_1.length co7, .slice Ao8 l0_2.length co8]) (t := 30) ?hr ?_; (case hd => rfl); (case hg => rfl); (case hr => first | (go_simp; done) | (go_simp; rfl)); intro gb290 hg w9 hbox hb; have n0_ := qm_ (Kd.S_below (by (with_reducible repeat (first | apply Kd.S_alloc | apply Kd.S_drewN | apply Kd.S_drew)); exact HO0_0.out) hb); have n1_ := qm_ (qb_ (by (with_reducible repeat (first | apply qa_ | apply qn_ | apply qd_)); exact HO0_1.out) hb); have n2_ := qm_ (qb_ (by (with_reducible repeat (first | apply qa_ | apply qn_ | apply qd_)); exact HO0_2.out) hb); have n3_ := qm_ (Kept.below (S := (fun k_ => P0_0_ k_ ∨ P0_1_ k_ ∨ P0_2_ k_)) (by repeat (first | (with_reducible first | exact HK.out | apply Kept.alloc | apply Kept.drewN | apply Kept.drew) | exact HK.out)) hb); have n4_ := qm_ (qh_ (by repeat (first | (with_reducible first | exact HB.out | apply qc_ | apply qx_ | apply qf_) | exact HB.out)) hb); have n5_ := qm_ (hbox); have n6_ := qm_ ((by rw [hg]; exact (by first | exact HK.out.1 | exact (show Kept w _ (fun k_ => P0_0_ k_ ∨ P0_1_ k_ ∨ P0_2_ k_) from by repeat (first | (with_reducible first | exact HK.out | apply Kept.alloc | apply Kept.drewN | apply Kept.drew) | exact HK.out)).1) : w.heap.size ≤ gb290)); have n7_ := qm_ ((by rw [hg]; exact (qz_ (by repeat (first | (with_reducible first | exact HB.out | apply qc_ | apply qx_ | apply qf_) | exact HB.out))) : w0.heap.size ≤ gb290)); clear HO0_0; clear HO0_1; clear HO0_2; clear HK; clear HB; have HO0_0 := n0_; have HO0_1 := n1_; have HO0_2 := n2_; have HK := n3_; have HB := n4_; have BK290 := n5_; have GW290 := n6_; have GE290 := n7_; clear n0_ n1_ n2_ n3_ n4_ n5_ n6_ n7_; clear hb hbox hg; have hcz10_0 : w9.cell? ⟨gb290, 0, none⟩ = some (.slice Ao6 l0_0.length co6) := (blk_cell BK290.out 0).trans rfl; have hcz10_1 : w9.cell? ⟨gb290, 1, none⟩ = some (.slice Ao7 l0_1.length co7) := (blk_cell BK290.out 1).trans rfl; have hcz10_2 : w9.cell? ⟨gb290, 2, none⟩ = some (.slice Ao8 l0_2.length co8) := (blk_cell BK290.out 2).trans rfl; have hfz10_0 := blk_frozen BK290.out 0; have hfz10_1 := blk_frozen BK290.out 1; have hfz10_2 := blk_frozen BK290.out 2) | ((with_reducible refine gate_callee (f := 75) rfl ?_); refine goesL_ (some 8) rfl rfl Try.func75 (by kernel_rfl) rfl #[.slice Ao6 l0_0.length co6, .int .i64 a1] rfl (by (try simp only [List.map_toArray, List.map_cons, List.map_nil]); first | done | rfl | (simp only [List.length_drop, List.length_take]; rfl)) ?_; (first | (with_reducible refine (laws_markIntSS.calls k _ (.slice Ao6 l0_0.length co6) l0_0 a1 t291 t292 w0 _ ?side1 (Kd.S_bound (HO0_0.out)) A3.out).mono ?_) | (with_reducible refine (laws_markIntSS.calls k _ (.slice Ao6 l0_0.length co6) l0_0 a1 t291 t292 w0 _ ?side1 (Kd.S_bound (Kd.S_drewN (HO0_0.out) _)) A3.out).mono ?_) | (with_reducible refine (laws_markIntSS.calls k _ (.slice Ao6 l0_0.length co6) l0_0 a1 t291 t292 w0 _ ?side1 (Kd.S_bound (Kd.S_drew (HO0_0.out))) A3.out).mono ?_)); (case side1 => repeat (first | (with_reducible first | exact HB.out | apply qc_ | apply qx_ | apply qf_ | refine qg_ ?_ GE290.out) | exact HB.out)); rintro e w11 ⟨rfl, hy0, hb, hkp⟩; refine ⟨_, rfl, ?_⟩; have n0_ := qm_ (Kd.S_mono (ok' := fun k_ => ((((P0_0_ k_ ∨ P0_1_ k_ ∨ P0_2_ k_) ∨ w.heap.size ≤ k_)) ∧ some k_ ≠ (.slice Ao8 l0_2.length co8 : Value).ownBlock)) hy0 (fun k_ e_ => Or.elim e_ (fun h_ => ⟨h_.1.1, h_.1.2⟩) (fun h_ => ⟨(.inr (Nat.le_trans (by first | exact HK.out.1 | exact (show Kept w _ (fun k_ => P0_0_ k_ ∨ P0_1_ k_ ∨ P0_2_ k_) from by repeat (first | (with_reducible first | exact HK.out | apply Kept.alloc | apply Kept.drewN | apply Kept.drew | refine Kept.setCell ?_ (.inr GW290.out) _) | exact HK.out)).1) h_)), (fun e_ => Nat.not_le.2 (qt_ (by (with_reducible repeat (first | apply qa_ | apply qn_ | apply qd_)); exact HO0_2.out) k_ e_.symm) h_)⟩))); have n1_ := qm_ (Kd.R_mono (ok' := fun k_ => ((P0_0_ k_ ∨ P0_1_ k_ ∨ P0_2_ k_) ∨ w.heap.size ≤ k_)) (Kd.R_keptB ((Kd.R_bound HO0_1.out)) hkp (fun k_ hk_ hs_ => ((fun e_ => (by obtain ⟨_, m1_, _, x1_⟩ := (hk_.2).2.2; obtain ⟨_, m2_, _, x2_⟩ := e_.2.2.2; have x3_ := x1_.symm.trans x2_; injection x3_ with x3_; injection x3_ with _ x3_ _; subst x3_; exact absurd m2_ ((show ∀ q, q ∈ [4] → ¬ q ∈ [24, 3] from by decide) _ m1_)))) hs_)) (fun k_ hk_ => hk_.1.1)); have n2_ := qm_ (Kd.R_mono (ok' := fun k_ => ((P0_0_ k_ ∨ P0_1_ k_ ∨ P0_2_ k_) ∨ w.heap.size ≤ k_)) (Kd.R_keptB ((Kd.R_tight2 rfl HO0_2.out)) hkp (fun k_ hk_ hs_ => ((fun e_ => (e_.1.2) (hk_.1))) hs_)) (fun k_ hk_ => hk_.1.2)); have n3_ := qm_ (blk_kept (by first | with_reducible exact BK290.out | with_reducible exact qu_ BK290.out _ | exact BK290.out | exact qw_ BK290.out _) hkp (fun hs_ => (fun e_ => (by obtain ⟨_, m1_, _, x1_⟩ := e_.2.2.2; have x3_ := x1_.symm.trans (by first | with_reducible exact BK290.out | with_reducible exact qu_ BK290.out _ | exact BK290.out | exact qw_ BK290.out _); injection x3_ with x3_; injection x3_ with _ x3_ _; subst x3_; exact absurd m1_ (show ¬ (30 ∈ [24, 3]) from by decide))) hs_)); have n4_ := qm_ (Kept.then_ (S := (fun k_ => P0_0_ k_ ∨ P0_1_ k_ ∨ P0_2_ k_)) (by repeat (first | (with_reducible first | exact HK.out | apply Kept.alloc | apply Kept.drewN | apply Kept.drew | refine Kept.setCell ?_ (.inr GW290.out) _) | exact HK.out)) hkp (fun k_ hs_ => (fun e_ => e_.1.1) hs_)); have n5_ := qm_ (hb); clear HO0_0; clear HO0_1; clear HO0_2; clear BK290; clear HK; clear HB; have HO0_0 := n0_; have HO0_1 := n1_; have HO0_2 := n2_; have BK290 := n3_; have HK := n4_; have HB := n5_; clear n0_ n1_ n2_ n3_ n4_ n5_; (try clear hb); (try clear hkp); (try clear hy0); have hcz12_0 : w11.cell? ⟨gb290, 0, none⟩ = some (.slice Ao6 l0_0.length co6) := (blk_cell BK290.out 0).trans rfl; have hcz12_1 : w11.cell? ⟨gb290, 1, none⟩ = some (.slice Ao7 l0_1.length co7) := (blk_cell BK290.out 1).trans rfl; have hcz12_2 : w11.cell? ⟨gb290, 2, none⟩ = some (.slice Ao8 l0_2.length co8) := (blk_cell BK290.out 2).trans rfl; have hfz12_0 := blk_frozen BK290.out 0; have hfz12_1 := blk_frozen BK290.out 1; have hfz12_2 := blk_frozen BK290.out 2) | ((with_reducible refine gate_callee (f := 28) rfl ?_); refine goesL_ (some 12) rfl rfl Try.func28 (by kernel_rfl) rfl #[.slice Ao7 l0_1.length co7, .int .i64 t291] rfl (by (try simp only [List.map_toArray, List.map_cons, List.map_nil]); first | done | rfl | (simp only [List.length_drop, List.length_take]; rfl)) ?_; (with_reducible refine (laws_markBoolS.calls k (fun k_ => some k_ = (.slice Ao7 l0_1.length co7 : Value).ownBlock) (.slice Ao7 l0_1.length co7) l0_1 t291 t293 t294 w0 _ ?side1 ?side2 A4.out).mono ?_); (case side1 => repeat (first | (with_reducible first | exact HB.out | apply qc_ | apply qx_ | apply qf_ | refine qg_ ?_ GE290.out) | exact HB.out)); (case side2 => exact Kd.R_tight rfl HO0_1.out); rintro e w13 ⟨rfl, hy0, hb, hkp⟩; refine ⟨_, rfl, ?_⟩; have n0_ := qm_ (Kd.S_mono (ok' := fun k_ => ((P0_0_ k_ ∨ P0_1_ k_ ∨ P0_2_ k_) ∨ w.heap.size ≤ k_) ∧ some k_ ≠ (.slice Ao8 l0_2.length co8 : Value).ownBlock) (Kd.S_keptB ((Kd.S_apart' HO0_0.out (Kd.R_typed HO0_1.out) (by decide))) hkp (fun k_ hk_ hs_ => (hk_.2) hs_)) (fun k_ hk_ => ⟨hk_.1.1.1, hk_.1.1.2⟩)); have n1_ := qm_ (Kd.R_reok rfl hy0 (fun k_ e_ => HO0_1.out.1 k_ e_)); have n2_ := qm_ (Kd.R_mono (ok' := fun k_ => ((P0_0_ k_ ∨ P0_1_ k_ ∨ P0_2_ k_) ∨ w.heap.size ≤ k_)) (Kd.R_keptB ((Kd.R_apart' HO0_2.out (Kd.R_typed HO0_1.out) (by decide))) hkp (fun k_ hk_ hs_ => (hk_.2) hs_)) (fun k_ hk_ => hk_.1.1)); have n3_ := qm_ (blk_kept (by first | with_reducible exact BK290.out | with_reducible exact qu_ BK290.out _ | exact BK290.out | exact qw_ BK290.out _) hkp (fun hs_ => (fun e_ => (Kd.R_ne HO0_1.out BK290.out (by decide)) e_) hs_)); have n4_ := qm_ (Kept.then_ (S := (fun k_ => P0_0_ k_ ∨ P0_1_ k_ ∨ P0_2_ k_)) (by repeat (first | (with_reducible first | exact HK.out | apply Kept.alloc | apply Kept.drewN | apply Kept.drew | refine Kept.setCell ?_ (.inr GW290.out) _) | exact HK.out)) hkp (fun k_ hs_ => (fun e_ => (HO0_1.out.1 k_ e_.symm)) hs_)); have n5_ := qm_ (hb); clear HO0_0; clear HO0_1; clear HO0_2; clear BK290; clear HK; clear HB; have HO0_0 := n0_; have HO0_1 := n1_; have HO0_2 := n2_; have BK290 := n3_; have HK := n4_; have HB := n5_; clear n0_ n1_ n2_ n3_ n4_ n5_; (try clear hb); (try clear hkp); (try clear hy0); have hcz14_0 : w13.cell? ⟨gb290, 0, none⟩ = some (.slice Ao6 l0_0.length co6) := (blk_cell BK290.out 0).trans rfl; have hcz14_1 : w13.cell? ⟨gb290, 1, none⟩ = some (.slice Ao7 l0_1.length co7) := (blk_cell BK290.out 1).trans rfl; have hcz14_2 : w13.cell? ⟨gb290, 2, none⟩ = some (.slice Ao8 l0_2.length co8) := (blk_cell BK290.out 2).trans rfl; have hfz14_0 := blk_frozen BK290.out 0; have hfz14_1 := blk_frozen BK290.out 1; have hfz14_2 := blk_frozen BK290.out 2) | ((with_reducible refine gate_callee (f := 40) rfl ?_); refine goesL_ (some 16) rfl rfl Try.func40 (by kernel_rfl) rfl #[.slice Ao8 l0_2.length co8, .int .i64 t293] rfl (by (try simp only [List.map_toArray, List.map_cons, List.map_nil]); first | done | rfl | (simp only [List.length_drop, List.length_take]; rfl)) ?_; (with_reducible refine (laws_markIntS.calls k (fun k_ => some k_ = (.slice Ao8 l0_2.length co8 : Value).ownBlock) (.slice Ao8 l0_2.length co8) l0_2 t293 t295 t296 w0 _ ?side1 ?side2 A5.out).mono ?_); (case side1 => repeat (first | (with_reducible first | exact HB.out | apply qc_ | apply qx_ | apply qf_ | refine qg_ ?_ GE290.out) | exact HB.out)); (case side2 => exact Kd.R_tight rfl HO0_2.out); rintro e w15 ⟨rfl, hy0, hb, hkp⟩; refine ⟨_, rfl, ?_⟩; have n0_ := qm_ (Kd.S_mono (ok' := fun k_ => ((P0_0_ k_ ∨ P0_1_ k_ ∨ P0_2_ k_) ∨ w.heap.size ≤ k_) ∧ some k_ ≠ (.slice Ao8 l0_2.length co8 : Value).ownBlock) (Kd.S_keptB (HO0_0.out) hkp (fun k_ hk_ hs_ => (hk_.2) hs_)) (fun k_ hk_ => ⟨hk_.1.1, hk_.1.2⟩)); have n1_ := qm_ (Kd.R_mono (ok' := fun k_ => ((P0_0_ k_ ∨ P0_1_ k_ ∨ P0_2_ k_) ∨ w.heap.size ≤ k_)) (Kd.R_keptB ((Kd.R_apart' HO0_1.out (Kd.R_typed HO0_2.out) (by decide))) hkp (fun k_ hk_ hs_ => (hk_.2) hs_)) (fun k_ hk_ => hk_.1.1)); have n2_ := qm_ (Kd.R_reok rfl hy0 (fun k_ e_ => HO0_2.out.1 k_ e_)); have n3_ := qm_ (blk_kept (by first | with_reducible exact BK290.out | with_reducible exact qu_ BK290.out _ | exact BK290.out | exact qw_ BK290.out _) hkp (fun hs_ => (fun e_ => (Kd.R_ne HO0_2.out BK290.out (by decide)) e_) hs_)); have n4_ := qm_ (Kept.then_ (S := (fun k_ => P0_0_ k_ ∨ P0_1_ k_ ∨ P0_2_ k_)) (by repeat (first | (with_reducible first | exact HK.out | apply Kept.alloc | apply Kept.drewN | apply Kept.drew | refine Kept.setCell ?_ (.inr GW290.out) _) | exact HK.out)) hkp (fun k_ hs_ => (fun e_ => (HO0_2.out.1 k_ e_.symm)) hs_)); have n5_ := qm_ (hb); clear HO0_0; clear HO0_1; clear HO0_2; clear BK290; clear HK; clear HB; have HO0_0 := n0_; have HO0_1 := n1_; have HO0_2 := n2_; have BK290 := n3_; have HK := n4_; have HB := n5_; clear n0_ n1_ n2_ n3_ n4_ n5_; (try clear hb); (try clear hkp); (try clear hy0)))
 go_ret
 exact ⟨by first | rfl | (simp [errW_none, errW_some] <;> rfl) | (simp [*, errW_none, errW_some] <;> rfl), by (with_reducible repeat (first | apply Kd.S_alloc | apply Kd.S_drewN | apply Kd.S_drew)); exact Kd.S_mono HO0_0.out (fun _ hk => hk.1), by (with_reducible repeat (first | apply qa_ | apply qn_ | apply qd_)); exact HO0_1.out, by (with_reducible repeat (first | apply qa_ | apply qn_ | apply qd_)); exact HO0_2.out, by repeat (first | (with_reducible first | exact HB.out | apply qc_ | apply qx_ | apply qf_ | refine qg_ ?_ GE290.out) | exact HB.out), by repeat (first | (with_reducible first | exact HK.out | apply Kept.alloc | apply Kept.drewN | apply Kept.drew | refine Kept.setCell ?_ (.inr GW290.out) _) | exact HK.out)⟩

/-! ### laws_heldBoolS: function 29 -/
def laws_heldBoolS.l0 : Nat → List Bool → Int → Int → Option (Int)
 | 0, _, _, _ => none
 | k + 1, x0, x1, x5 => if x5 < (x0.length : Int) then (if 0 ≤ x5 then (if ((rdOf false x0 x5) != ((Int.tmod x1 3) == 0)) = true then (some (-1)) else (laws_heldBoolS.l0 k x0 (wrap64 (x1 + 1)) (wrap64 (x5 + 1)))) else (none)) else (some x1)
def laws_heldBoolS.f (k : Nat) (l0 : List Bool) (a1 : Int) : Option (Int) := laws_heldBoolS.l0 k l0 a1 0
theorem laws_heldBoolS.mono_l : ∀ k, (∀ y0 y1 y2, LeO (laws_heldBoolS.l0 k y0 y1 y2) (laws_heldBoolS.l0 (k + 1) y0 y1 y2))
 | 0 => fun _ _ _ r h => by simp [laws_heldBoolS.l0] at h
 | k + 1 => by
  have ih0 := laws_heldBoolS.mono_l k
  ·intro y0 y1 y2
   unfold laws_heldBoolS.l0
   repeat' first
   | (with_reducible exact ih0 _ _ _)
   | (with_reducible exact LeO.refl _)
   | (with_reducible exact LeO.none _)
   | (with_reducible refine LeO.ite ?_ ?_)
   | (with_reducible refine LeO.bind ?_ (fun _ => ?_))
   | exact ih0 _ _ _
   | exact LeO.none _
   | refine LeO.ite ?_ ?_
   | refine LeO.bind ?_ (fun _ => ?_)
theorem laws_heldBoolS.mono : ∀ a0 a1 k, LeO (laws_heldBoolS.f k a0 a1) (laws_heldBoolS.f (k + 1) a0 a1) := by
 intro a0 a1 k
 have ih0 := laws_heldBoolS.mono_l k
 unfold laws_heldBoolS.f
 repeat' first
   | (with_reducible exact ih0 _ _ _)
   | (with_reducible exact LeO.refl _)
   | (with_reducible exact LeO.none _)
   | (with_reducible refine LeO.ite ?_ ?_)
   | (with_reducible refine LeO.bind ?_ (fun _ => ?_))
   | exact ih0 _ _ _
   | exact LeO.none _
   | refine LeO.ite ?_ ?_
   | refine LeO.bind ?_ (fun _ => ?_)
set_option maxHeartbeats 8000000 in
set_option maxRecDepth 100000 in
theorem laws_heldBoolS.calls (k : Nat) (A0 : Option Addr) (c0 : Nat) (l0 : List Bool) (a1 : Int) (r : Int) (w : World) (hr0 : Kd.C Kd.bool w A0 l0.length l0) (hc0 : l0.length ≤ c0) (h : laws_heldBoolS.f k l0 a1 = some r) :
  Calls Try.prog 29 #[.slice A0 l0.length c0, .int .i64 a1] w fun e w' => e = .returned (.int .i64 r) ∧ Drawn0 w w' := by
 have HR0 := qm_ hr0
 have HC0 := qm_ hc0
 clear hr0 hc0
 have H : (laws_heldBoolS.l0 k l0 a1 0) = some r := h
 clear h
 have H' := qm_ H
 clear H
 go_enter Try.func29, Try.ntmps29
 go_wp2
 go_loopg [1, 5] k (fun kq v1 v5 w' => ∃ (x1_1 : Int) (x5_1 : Int), v1 = .int .i64 x1_1 ∧ v5 = .int .i64 x5_1 ∧ Aside0 (laws_heldBoolS.l0 kq l0 x1_1 x5_1 = some r) ∧ Aside0 (kq ≤ k) ∧ Drawn0 w w')
 case atStart => exact ⟨(a1), (0), (by first | rfl | (simp; done) | (simp [*]; done)), (by first | rfl | (simp; done) | (simp [*]; done)), H', ⟨Nat.le_refl _⟩, by repeat (first | exact Drawn0.refl _ | apply Drawn0.step)⟩
 case round =>
  clear H'
  try clear c2
  try clear p2
  obtain ⟨x1_1, x5_1, rfl, rfl, HA, HK1, ⟨m1, rfl⟩⟩ := hrel
  cases gk with
  | zero => exact absurd HA.out (by simp [laws_heldBoolS.l0])
  | succ k1 =>
   have H := HA.out
   clear HA
   simp only [laws_heldBoolS.l0] at H
   by_cases c3 : x5_1 < (l0.length : Int)
   ·rw [if_pos c3] at H
    have c3b0 : decide (x5_1 < (l0.length : Int)) = true := decide_eq_true c3
    clear c3
    by_cases c4 : 0 ≤ x5_1
    ·rw [if_pos c4] at H
     have c4b0 : decide (0 ≤ x5_1) = true := decide_eq_true c4
     clear c4
     by_cases c5 : ((rdOf false l0 x5_1) != ((Int.tmod x1_1 3) == 0)) = true
     ·rw [if_pos c5] at H
      have c5b0 : ((rdOf false l0 x5_1) != ((Int.tmod x1_1 3) == 0)) = true := c5
      (try (have c5b1 : decide ((rdOf false l0 x5_1) = ((Int.tmod x1_1 3) == 0)) = false := by simpa using c5))
      (try (have c5b2 : ((rdOf false l0 x5_1) == ((Int.tmod x1_1 3) == 0)) = false := by simpa using c5))
      (try (have c5b3 : ¬ ((rdOf false l0 x5_1) = ((Int.tmod x1_1 3) == 0)) := by simpa using c5))
      clear c5
      obtain rfl := Option.some.inj H
      have p297 : 0 ≤ (x5_1 : Int) := of_decide_eq_true (by first | (with_reducible assumption) | assumption)
      have q297 : x5_1 < (l0.length : Int) := of_decide_eq_true (by first | (with_reducible assumption) | assumption)
      obtain ⟨ad297, e297, hx297_0⟩ := Kd.at_bool HR0.out x5_1 p297 q297
      cases e297
      replace p297 := eq_true p297
      replace q297 := eq_true q297
      go_wp2
      go_ret
      exact ⟨by first | rfl | (simp; done) | (simp [*]; done), by repeat (first | exact Drawn0.refl _ | apply Drawn0.step)⟩
     ·rw [if_neg c5] at H
      have c5b0 : ((rdOf false l0 x5_1) != ((Int.tmod x1_1 3) == 0)) = false := by simpa using c5
      (try (have c5b1 : decide ((rdOf false l0 x5_1) = ((Int.tmod x1_1 3) == 0)) = true := by simpa using c5))
      (try (have c5b2 : ((rdOf false l0 x5_1) == ((Int.tmod x1_1 3) == 0)) = true := by simpa using c5))
      clear c5
      have H' := qm_ H
      clear H
      have p297 : 0 ≤ (x5_1 : Int) := of_decide_eq_true (by first | (with_reducible assumption) | assumption)
      have q297 : x5_1 < (l0.length : Int) := of_decide_eq_true (by first | (with_reducible assumption) | assumption)
      obtain ⟨ad297, e297, hx297_0⟩ := Kd.at_bool HR0.out x5_1 p297 q297
      cases e297
      replace p297 := eq_true p297
      replace q297 := eq_true q297
      go_wp2
      go_roundg k1
      case measure => have := HK1.out; omega
      case rel => exact ⟨(wrap64 (x1_1 + 1)), (wrap64 (x5_1 + 1)), (by first | rfl | (simp; done) | (simp [*]; done)), (by first | rfl | (simp; done) | (simp [*]; done)), H', ⟨by have := HK1.out; omega⟩, by repeat (first | exact Drawn0.refl _ | apply Drawn0.step)⟩
    ·rw [if_neg c4] at H
     exact absurd H (by simp)
   ·rw [if_neg c3] at H
    have c3b0 : decide (x5_1 < (l0.length : Int)) = false := decide_eq_false c3
    clear c3
    obtain rfl := Option.some.inj H
    go_wp2
    go_ret
    exact ⟨by first | rfl | (simp; done) | (simp [*]; done), by repeat (first | exact Drawn0.refl _ | apply Drawn0.step)⟩

/-! ### laws_heldIntS: function 41 -/
def laws_heldIntS.l0 : Nat → List Int → Int → Int → Option (Int)
 | 0, _, _, _ => none
 | k + 1, x0, x1, x5 => if x5 < (x0.length : Int) then (if 0 ≤ x5 then (if (rd x0 x5) = x1 then (laws_heldIntS.l0 k x0 (wrap64 (x1 + 1)) (wrap64 (x5 + 1))) else (some (-1))) else (none)) else (some x1)
def laws_heldIntS.f (k : Nat) (l0 : List Int) (a1 : Int) : Option (Int) := laws_heldIntS.l0 k l0 a1 0
theorem laws_heldIntS.mono_l : ∀ k, (∀ y0 y1 y2, LeO (laws_heldIntS.l0 k y0 y1 y2) (laws_heldIntS.l0 (k + 1) y0 y1 y2))
 | 0 => fun _ _ _ r h => by simp [laws_heldIntS.l0] at h
 | k + 1 => by
  have ih0 := laws_heldIntS.mono_l k
  ·intro y0 y1 y2
   unfold laws_heldIntS.l0
   repeat' first
   | (with_reducible exact ih0 _ _ _)
   | (with_reducible exact LeO.refl _)
   | (with_reducible exact LeO.none _)
   | (with_reducible refine LeO.ite ?_ ?_)
   | (with_reducible refine LeO.bind ?_ (fun _ => ?_))
   | exact ih0 _ _ _
   | exact LeO.none _
   | refine LeO.ite ?_ ?_
   | refine LeO.bind ?_ (fun _ => ?_)
theorem laws_heldIntS.mono : ∀ a0 a1 k, LeO (laws_heldIntS.f k a0 a1) (laws_heldIntS.f (k + 1) a0 a1) := by
 intro a0 a1 k
 have ih0 := laws_heldIntS.mono_l k
 unfold laws_heldIntS.f
 repeat' first
   | (with_reducible exact ih0 _ _ _)
   | (with_reducible exact LeO.refl _)
   | (with_reducible exact LeO.none _)
   | (with_reducible refine LeO.ite ?_ ?_)
   | (with_reducible refine LeO.bind ?_ (fun _ => ?_))
   | exact ih0 _ _ _
   | exact LeO.none _
   | refine LeO.ite ?_ ?_
   | refine LeO.bind ?_ (fun _ => ?_)
set_option maxHeartbeats 8000000 in
set_option maxRecDepth 100000 in
theorem laws_heldIntS.calls (k : Nat) (A0 : Option Addr) (c0 : Nat) (l0 : List Int) (a1 : Int) (r : Int) (w : World) (hr0 : Kd.C (Kd.int .i64) w A0 l0.length l0) (hc0 : l0.length ≤ c0) (h : laws_heldIntS.f k l0 a1 = some r) :
  Calls Try.prog 41 #[.slice A0 l0.length c0, .int .i64 a1] w fun e w' => e = .returned (.int .i64 r) ∧ Drawn0 w w' := by
 have HR0 := qm_ hr0
 have HC0 := qm_ hc0
 clear hr0 hc0
 have H : (laws_heldIntS.l0 k l0 a1 0) = some r := h
 clear h
 have H' := qm_ H
 clear H
 go_enter Try.func41, Try.ntmps41
 go_wp2
 go_loopg [1, 5] k (fun kq v1 v5 w' => ∃ (x1_1 : Int) (x5_1 : Int), v1 = .int .i64 x1_1 ∧ v5 = .int .i64 x5_1 ∧ Aside0 (laws_heldIntS.l0 kq l0 x1_1 x5_1 = some r) ∧ Aside0 (kq ≤ k) ∧ Drawn0 w w')
 case atStart => exact ⟨(a1), (0), (by first | rfl | (simp; done) | (simp [*]; done)), (by first | rfl | (simp; done) | (simp [*]; done)), H', ⟨Nat.le_refl _⟩, by repeat (first | exact Drawn0.refl _ | apply Drawn0.step)⟩
 case round =>
  clear H'
  try clear p2
  obtain ⟨x1_1, x5_1, rfl, rfl, HA, HK1, ⟨m1, rfl⟩⟩ := hrel
  cases gk with
  | zero => exact absurd HA.out (by simp [laws_heldIntS.l0])
  | succ k1 =>
   have H := HA.out
   clear HA
   simp only [laws_heldIntS.l0] at H
   by_cases c3 : x5_1 < (l0.length : Int)
   ·rw [if_pos c3] at H
    have c3b0 : decide (x5_1 < (l0.length : Int)) = true := decide_eq_true c3
    clear c3
    by_cases c4 : 0 ≤ x5_1
    ·rw [if_pos c4] at H
     have c4b0 : decide (0 ≤ x5_1) = true := decide_eq_true c4
     clear c4
     by_cases c5 : (rd l0 x5_1) = x1_1
     ·rw [if_pos c5] at H
      have c5b0 : ((rd l0 x5_1) == x1_1) = true := beq_iff_eq.mpr c5
      have c5b1 : ((rd l0 x5_1) != x1_1) = false := bne_eq_false_iff_eq.mpr c5
      clear c5
      have H' := qm_ H
      clear H
      have p298 : 0 ≤ (x5_1 : Int) := of_decide_eq_true (by first | (with_reducible assumption) | assumption)
      have q298 : x5_1 < (l0.length : Int) := of_decide_eq_true (by first | (with_reducible assumption) | assumption)
      obtain ⟨ad298, e298, hx298_0⟩ := Kd.at_int HR0.out x5_1 p298 q298
      cases e298
      replace p298 := eq_true p298
      replace q298 := eq_true q298
      go_wp2
      go_roundg k1
      case measure => have := HK1.out; omega
      case rel => exact ⟨(wrap64 (x1_1 + 1)), (wrap64 (x5_1 + 1)), (by first | rfl | (simp; done) | (simp [*]; done)), (by first | rfl | (simp; done) | (simp [*]; done)), H', ⟨by have := HK1.out; omega⟩, by repeat (first | exact Drawn0.refl _ | apply Drawn0.step)⟩
     ·rw [if_neg c5] at H
      have c5b0 : ((rd l0 x5_1) == x1_1) = false := beq_eq_false_iff_ne.mpr c5
      have c5b1 : ((rd l0 x5_1) != x1_1) = true := bne_iff_ne.mpr c5
      obtain rfl := Option.some.inj H
      have p298 : 0 ≤ (x5_1 : Int) := of_decide_eq_true (by first | (with_reducible assumption) | assumption)
      have q298 : x5_1 < (l0.length : Int) := of_decide_eq_true (by first | (with_reducible assumption) | assumption)
      obtain ⟨ad298, e298, hx298_0⟩ := Kd.at_int HR0.out x5_1 p298 q298
      cases e298
      replace p298 := eq_true p298
      replace q298 := eq_true q298
      go_wp2
      go_ret
      exact ⟨by first | rfl | (simp; done) | (simp [*]; done), by repeat (first | exact Drawn0.refl _ | apply Drawn0.step)⟩
    ·rw [if_neg c4] at H
     exact absurd H (by simp)
   ·rw [if_neg c3] at H
    have c3b0 : decide (x5_1 < (l0.length : Int)) = false := decide_eq_false c3
    clear c3
    obtain rfl := Option.some.inj H
    go_wp2
    go_ret
    exact ⟨by first | rfl | (simp; done) | (simp [*]; done), by repeat (first | exact Drawn0.refl _ | apply Drawn0.step)⟩

/-! ### laws_heldIntSS: function 76 -/
def laws_heldIntSS.l0 : Nat → List (List Int) → Int → Int → Option (Int)
 | 0, _, _, _ => none
 | k + 1, x0, x1, x5 => if x5 < (x0.length : Int) then (if 0 ≤ x5 then ((laws_heldIntS.f k (rd_L1 x0 x5) x1).bind fun t300 => (if t300 < 0 then (some (-1)) else (laws_heldIntSS.l0 k x0 t300 (wrap64 (x5 + 1))))) else (none)) else (some x1)
def laws_heldIntSS.f (k : Nat) (l0 : List (List Int)) (a1 : Int) : Option (Int) := laws_heldIntSS.l0 k l0 a1 0
theorem laws_heldIntSS.mono_l : ∀ k, (∀ y0 y1 y2, LeO (laws_heldIntSS.l0 k y0 y1 y2) (laws_heldIntSS.l0 (k + 1) y0 y1 y2))
 | 0 => fun _ _ _ r h => by simp [laws_heldIntSS.l0] at h
 | k + 1 => by
  have ih0 := laws_heldIntSS.mono_l k
  ·intro y0 y1 y2
   unfold laws_heldIntSS.l0
   repeat' first
   | (with_reducible exact ih0 _ _ _)
   | (with_reducible exact laws_heldIntS.mono _ _ _)
   | (with_reducible exact LeO.refl _)
   | (with_reducible exact LeO.none _)
   | (with_reducible refine LeO.ite ?_ ?_)
   | (with_reducible refine LeO.bind ?_ (fun _ => ?_))
   | exact ih0 _ _ _
   | exact laws_heldIntS.mono _ _ _
   | exact LeO.none _
   | refine LeO.ite ?_ ?_
   | refine LeO.bind ?_ (fun _ => ?_)
theorem laws_heldIntSS.mono : ∀ a0 a1 k, LeO (laws_heldIntSS.f k a0 a1) (laws_heldIntSS.f (k + 1) a0 a1) := by
 intro a0 a1 k
 have ih0 := laws_heldIntSS.mono_l k
 unfold laws_heldIntSS.f
 repeat' first
   | (with_reducible exact ih0 _ _ _)
   | (with_reducible exact laws_heldIntS.mono _ _ _)
   | (with_reducible exact LeO.refl _)
   | (with_reducible exact LeO.none _)
   | (with_reducible refine LeO.ite ?_ ?_)
   | (with_reducible refine LeO.bind ?_ (fun _ => ?_))
   | exact ih0 _ _ _
   | exact laws_heldIntS.mono _ _ _
   | exact LeO.none _
   | refine LeO.ite ?_ ?_
   | refine LeO.bind ?_ (fun _ => ?_)
set_option maxHeartbeats 8000000 in
set_option maxRecDepth 100000 in
theorem laws_heldIntSS.calls (k : Nat) (A0 : Option Addr) (c0 : Nat) (l0 : List (List Int)) (a1 : Int) (r : Int) (w : World) (hr0 : Kd.C (Kd.slice 3 (Kd.int .i64)) w A0 l0.length l0) (hc0 : l0.length ≤ c0) (h : laws_heldIntSS.f k l0 a1 = some r) :
  Calls Try.prog 76 #[.slice A0 l0.length c0, .int .i64 a1] w fun e w' => e = .returned (.int .i64 r) ∧ Drawn0 w w' := by
 have HR0 := qm_ hr0
 have HC0 := qm_ hc0
 clear hr0 hc0
 have H : (laws_heldIntSS.l0 k l0 a1 0) = some r := h
 clear h
 have H' := qm_ H
 clear H
 go_enter Try.func76, Try.ntmps76
 go_wp2
 go_loopg [1, 5] k (fun kq v1 v5 w' => ∃ (x1_1 : Int) (x5_1 : Int), v1 = .int .i64 x1_1 ∧ v5 = .int .i64 x5_1 ∧ Aside0 (laws_heldIntSS.l0 kq l0 x1_1 x5_1 = some r) ∧ Aside0 (kq ≤ k) ∧ Drawn0 w w')
 case atStart => exact ⟨(a1), (0), (by first | rfl | (simp; done) | (simp [*]; done)), (by first | rfl | (simp; done) | (simp [*]; done)), H', ⟨Nat.le_refl _⟩, by repeat (first | exact Drawn0.refl _ | apply Drawn0.step)⟩
 case round =>
  clear H'
  try clear p2
  obtain ⟨x1_1, x5_1, rfl, rfl, HA, HK1, ⟨m1, rfl⟩⟩ := hrel
  cases gk with
  | zero => exact absurd HA.out (by simp [laws_heldIntSS.l0])
  | succ k1 =>
   have H := HA.out
   clear HA
   simp only [laws_heldIntSS.l0] at H
   by_cases c3 : x5_1 < (l0.length : Int)
   ·rw [if_pos c3] at H
    have c3b0 : decide (x5_1 < (l0.length : Int)) = true := decide_eq_true c3
    clear c3
    by_cases c4 : 0 ≤ x5_1
    ·rw [if_pos c4] at H
     have c4b0 : decide (0 ≤ x5_1) = true := decide_eq_true c4
     clear c4
     replace H := Option.bind_eq_some_iff.mp H
     obtain ⟨t300, A50, H⟩ := H
     replace H : (if t300 < 0 then (some (-1)) else (laws_heldIntSS.l0 k1 l0 t300 (wrap64 (x5_1 + 1)))) = some r := H
     have A5 := qm_ A50
     clear A50
     by_cases c6 : t300 < 0
     ·rw [if_pos c6] at H
      have c6b0 : decide (t300 < 0) = true := decide_eq_true c6
      clear c6
      obtain rfl := Option.some.inj H
      have p299 : 0 ≤ (x5_1 : Int) := of_decide_eq_true (by first | (with_reducible assumption) | assumption)
      have q299 : x5_1 < (l0.length : Int) := of_decide_eq_true (by first | (with_reducible assumption) | assumption)
      obtain ⟨ad299, A299_0, c299_0, e299, hx299_0, hl299_0, hi299_0⟩ := at_L1 HR0.out x5_1 p299 q299
      cases e299
      have HR299_0 := qm_ hi299_0
      have HC299_0 := qm_ hl299_0
      clear hi299_0 hl299_0
      replace p299 := eq_true p299
      replace q299 := eq_true q299
      go_wp2_with (first | ((with_reducible refine gate_callee (f := 41) rfl ?_); refine goesL_ (some 17) rfl rfl Try.func41 (by kernel_rfl) rfl #[.slice A299_0 (rd_L1 l0 x5_1).length c299_0, .int .i64 x1_1] rfl (by (try simp only [List.map_toArray, List.map_cons, List.map_nil]); first | done | rfl | (simp only [List.length_drop, List.length_take]; rfl)) ?_; (with_reducible refine (laws_heldIntS.calls k1 _ _ (rd_L1 l0 x5_1) x1_1 t300 _ ?side1 ?side2 A5.out).mono ?_); (case side1 => repeat (first | exact HR299_0.out | (with_reducible refine Kd.C_alloc ?_ _) | (with_reducible refine Kd.C_drewN ?_ _) | (with_reducible refine Kd.C_drew ?_))); (case side2 => exact HC299_0.out); rintro e w' ⟨rfl, ⟨nd, rfl⟩⟩; refine ⟨_, rfl, ?_⟩))
      go_ret
      exact ⟨by first | rfl | (simp; done) | (simp [*]; done), by repeat (first | exact Drawn0.refl _ | apply Drawn0.step)⟩
     ·rw [if_neg c6] at H
      have c6b0 : decide (t300 < 0) = false := decide_eq_false c6
      clear c6
      have H' := qm_ H
      clear H
      have p299 : 0 ≤ (x5_1 : Int) := of_decide_eq_true (by first | (with_reducible assumption) | assumption)
      have q299 : x5_1 < (l0.length : Int) := of_decide_eq_true (by first | (with_reducible assumption) | assumption)
      obtain ⟨ad299, A299_0, c299_0, e299, hx299_0, hl299_0, hi299_0⟩ := at_L1 HR0.out x5_1 p299 q299
      cases e299
      have HR299_0 := qm_ hi299_0
      have HC299_0 := qm_ hl299_0
      clear hi299_0 hl299_0
      replace p299 := eq_true p299
      replace q299 := eq_true q299
      go_wp2_with (first | ((with_reducible refine gate_callee (f := 41) rfl ?_); refine goesL_ (some 17) rfl rfl Try.func41 (by kernel_rfl) rfl #[.slice A299_0 (rd_L1 l0 x5_1).length c299_0, .int .i64 x1_1] rfl (by (try simp only [List.map_toArray, List.map_cons, List.map_nil]); first | done | rfl | (simp only [List.length_drop, List.length_take]; rfl)) ?_; (with_reducible refine (laws_heldIntS.calls k1 _ _ (rd_L1 l0 x5_1) x1_1 t300 _ ?side1 ?side2 A5.out).mono ?_); (case side1 => repeat (first | exact HR299_0.out | (with_reducible refine Kd.C_alloc ?_ _) | (with_reducible refine Kd.C_drewN ?_ _) | (with_reducible refine Kd.C_drew ?_))); (case side2 => exact HC299_0.out); rintro e w' ⟨rfl, ⟨nd, rfl⟩⟩; refine ⟨_, rfl, ?_⟩))
      go_roundg k1
      case measure => have := HK1.out; omega
      case rel => exact ⟨(t300), (wrap64 (x5_1 + 1)), (by first | rfl | (simp; done) | (simp [*]; done)), (by first | rfl | (simp; done) | (simp [*]; done)), H', ⟨by have := HK1.out; omega⟩, by repeat (first | exact Drawn0.refl _ | apply Drawn0.step)⟩
    ·rw [if_neg c4] at H
     exact absurd H (by simp)
   ·rw [if_neg c3] at H
    have c3b0 : decide (x5_1 < (l0.length : Int)) = false := decide_eq_false c3
    clear c3
    obtain rfl := Option.some.inj H
    go_wp2
    go_ret
    exact ⟨by first | rfl | (simp; done) | (simp [*]; done), by repeat (first | exact Drawn0.refl _ | apply Drawn0.step)⟩

end Go.Proofs.Ytkfldlniknifpaa.QFnExactSetField
