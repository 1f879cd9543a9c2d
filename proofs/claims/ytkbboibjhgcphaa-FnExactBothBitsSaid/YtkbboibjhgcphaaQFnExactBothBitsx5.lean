-- Written by a program of the session, a changed copy of the kit's print: not the kit's own print; Lean checks it.
import Derived.Test.YtkbboibjhgcphaaQFnExactBothBitsx0
import Derived.Test.YtkbboibjhgcphaaQFnExactBothBitsx1
import Derived.Test.YtkbboibjhgcphaaQFnExactBothBitsx3
import Derived.Test.YtkbboibjhgcphaaQFnExactBothBitsx4
namespace Go.Proofs.Ytkbboibjhgcphaa.QFnExactBothBits
open Go.RowKit Go.Proofs.YtkbboibjhgcphaaW.PrintWords Go.Proofs.YtkbboibjhgcphaaW.PrintLast Go.Proofs.YtkbboibjhgcphaaW.PrintMore
attribute [local go_sem] max2_int min2_int max_two min_two max_three min_three max_four min_four   -- for this text's walks alone
set_option linter.unusedVariables false
set_option linter.unusedSimpArgs false

open Go.Proofs.YtkbboibjhgcphaaW.PrintWords.Kd renaming R_alloc → qa_, R_drewN → qn_, R_drew → qd_, R_lower → ql_, R_lt → qt_, R_new' → qe_, R_below → qb_
open Go.Proofs.YtkbboibjhgcphaaW.PrintWords renaming blk_drewN → qu_, blk_drew → qv_, blk_alloc → qw_, blk_below → qs_, below_size → qz_, below_alloc → qc_, pw_below_drewN → qx_, below_drew1 → qf_, below_set → qg_, below_step → qh_
open Go.Proofs.YtkbboibjhgcphaaW.PrintWords.Aside0 renaming mk → qm_
/-! ### laws_FnExactBothBits: function 9 -/
def laws_FnExactBothBits.f (k : Nat) (a0_0 : Int) (l0_1 : List Int) (a1_0 : Int) (l1_1 : List Int) : Option (Bool) := (laws_szBits.f a0_0 l0_1 1048576).bind fun t189 => (if t189 < 0 then (some true) else ((laws_szBits.f a1_0 l1_1 t189).bind fun t190 => (if t190 < 0 then (some true) else ((laws_toBits.f k a0_0 l0_1).bind fun bt191 => ((laws_toBits.f k a1_0 l1_1).bind fun bt195 => ((spec_BothBits.f k bt191.1 bt191.2 bt195.1 bt195.2).bind fun bt199 => ((laws_toBits.f k a0_0 l0_1).bind fun bt205 => ((laws_toBits.f k a1_0 l1_1).bind fun bt210 => ((impl_BothBits.f k bt205.1 bt205.2 bt210.1 bt210.2).bind fun bt215 => ((laws_eqBits.f k bt215.1 bt215.2.1 bt199.1 bt199.2.1).bind fun t221 => (if t221 = true then (if (bt215.2.2 != bt199.2.2) = true then (some false) else ((laws_toBits.f k a0_0 l0_1).bind fun bt222 => ((laws_eqBits.f k bt205.1 bt205.2 bt222.1 bt222.2).bind fun t226 => (if t226 = true then ((laws_toBits.f k a1_0 l1_1).bind fun bt227 => ((laws_eqBits.f k bt210.1 bt210.2 bt227.1 bt227.2).bind fun t231 => (if t231 = true then ((laws_markBits.f k bt205.1 bt205.2 1).bind fun bt232 => ((laws_markBits.f k bt210.1 bt210.2 bt232.1).bind fun bt234 => (if bt234.1 < 0 then (some false) else ((laws_eqBits.f k bt215.1 bt215.2.1 bt199.1 bt199.2.1).bind fun t236 => (if t236 = true then ((laws_markBits.f k bt215.1 bt215.2.1 1).bind fun bt237 => ((laws_heldBits.f k bt215.1 bt237.2 1).bind fun t239 => (if t239 < 0 then (some false) else (if t239 = bt237.1 then ((laws_toBits.f k a0_0 l0_1).bind fun bt240 => ((laws_toBits.f k a1_0 l1_1).bind fun bt244 => ((impl_BothBits.f k bt240.1 bt240.2 bt244.1 bt244.2).bind fun bt248 => ((laws_eqBits.f k bt248.1 bt248.2.1 bt199.1 bt199.2.1).bind fun t254 => (if t254 = true then (if (bt248.2.2 != bt199.2.2) = true then (some false) else ((laws_heldBits.f k bt215.1 bt237.2 1).bind fun t255 => (if t255 < 0 then (some false) else (if t255 = bt237.1 then (some true) else (some false))))) else (some false)))))) else (some false))))) else (some false)))))) else (some false)))) else (some false))))) else (some false))))))))))))
theorem laws_FnExactBothBits.mono : ∀ a0 a1 a2 a3 k, LeO (laws_FnExactBothBits.f k a0 a1 a2 a3) (laws_FnExactBothBits.f (k + 1) a0 a1 a2 a3) := by
 intro a0 a1 a2 a3 k
 unfold laws_FnExactBothBits.f
 repeat' first
   | (with_reducible exact impl_BothBits.mono _ _ _ _ _)
   | (with_reducible exact laws_eqBits.mono _ _ _ _ _)
   | (with_reducible exact laws_heldBits.mono _ _ _ _)
   | (with_reducible exact laws_markBits.mono _ _ _ _)
   | (with_reducible exact laws_toBits.mono _ _ _)
   | (with_reducible exact spec_BothBits.mono _ _ _ _ _)
   | (with_reducible exact LeO.refl _)
   | (with_reducible exact LeO.none _)
   | (with_reducible refine LeO.ite ?_ ?_)
   | (with_reducible refine LeO.bind ?_ (fun _ => ?_))
   | exact impl_BothBits.mono _ _ _ _ _
   | exact laws_eqBits.mono _ _ _ _ _
   | exact laws_heldBits.mono _ _ _ _
   | exact laws_markBits.mono _ _ _ _
   | exact laws_toBits.mono _ _ _
   | exact spec_BothBits.mono _ _ _ _ _
   | exact LeO.none _
   | refine LeO.ite ?_ ?_
   | refine LeO.bind ?_ (fun _ => ?_)
def laws_FnExactBothBits.T8 : Bool × List (List Nat × List Nat) := (true, [([], []), ([0], [0]), ([], []), ([2, 1], [2]), ([1, 3, 3], [1, 3]), ([4], [4]), ([5], [5]), ([5], [5]), ([], []), ([8, 6, 4, 0, 1, 2, 3, 4, 5, 6, 8], [6, 8]), ([7, 9, 0, 1, 2, 3, 4, 5, 6, 7, 8, 9], [7])])
def laws_FnExactBothBits.B8 : List Nat := [0, 1, 0, 7, 15, 31, 63, 63, 0, 383, 1023]
theorem laws_FnExactBothBits.tab8 : rtab .any (opsOf Try.f9 8) = laws_FnExactBothBits.T8 := by kernel_rfl
theorem laws_FnExactBothBits.bits8 : waitsOk laws_FnExactBothBits.T8.2 laws_FnExactBothBits.B8 = true := by kernel_rfl
def laws_FnExactBothBits.T31 : Bool × List (List Nat × List Nat) := (true, [([], []), ([0], [0]), ([], []), ([2, 1], [2]), ([1, 3, 3], [1, 3]), ([4], [4]), ([5], [5]), ([5], [5]), ([], []), ([8, 6, 4, 0, 1, 2, 3, 4, 5, 6, 8], [6, 8]), ([7, 9, 0, 1, 2, 3, 4, 5, 6, 7, 8, 9], [7])])
def laws_FnExactBothBits.B31 : List Nat := [0, 1, 0, 7, 15, 31, 63, 63, 0, 383, 1023]
theorem laws_FnExactBothBits.tab31 : rtab .any (opsOf Try.f9 31) = laws_FnExactBothBits.T31 := by kernel_rfl
theorem laws_FnExactBothBits.bits31 : waitsOk laws_FnExactBothBits.T31.2 laws_FnExactBothBits.B31 = true := by kernel_rfl
set_option maxHeartbeats 8000000 in
set_option maxRecDepth 100000 in
theorem laws_FnExactBothBits.calls (k : Nat) (a0_0 : Int) (A0_1 : Option Addr) (c0_1 : Nat) (l0_1 : List Int) (a1_0 : Int) (A1_1 : Option Addr) (c1_1 : Nat) (l1_1 : List Int) (r : Bool) (w : World) (hr0_1 : Kd.C (Kd.int .i64) w A0_1 l0_1.length l0_1) (hc0_1 : l0_1.length ≤ c0_1) (hr1_1 : Kd.C (Kd.int .i64) w A1_1 l1_1.length l1_1) (hc1_1 : l1_1.length ≤ c1_1) (h : laws_FnExactBothBits.f k a0_0 l0_1 a1_0 l1_1 = some r) (ht_ : Aside0 (r = true)) :
  Calls Try.prog 9 #[.agg #[.int .i64 a0_0, .slice A0_1 l0_1.length c0_1], .agg #[.int .i64 a1_0, .slice A1_1 l1_1.length c1_1]] w fun e w' => e = .returned (.bool r) ∧ Below w.heap.size w w' := by
 have hu34 := Try.underlying34
 have hu24 := Try.underlying24
 have HR0_1 := qm_ hr0_1
 have HC0_1 := qm_ hc0_1
 clear hr0_1 hc0_1
 have HR1_1 := qm_ hr1_1
 have HC1_1 := qm_ hc1_1
 clear hr1_1 hc1_1
 have HB := qm_ (Below.refl w.heap.size w)
 have H : ((laws_szBits.f a0_0 l0_1 1048576).bind fun t189 => (if t189 < 0 then (some true) else ((laws_szBits.f a1_0 l1_1 t189).bind fun t190 => (if t190 < 0 then (some true) else ((laws_toBits.f k a0_0 l0_1).bind fun bt191 => ((laws_toBits.f k a1_0 l1_1).bind fun bt195 => ((spec_BothBits.f k bt191.1 bt191.2 bt195.1 bt195.2).bind fun bt199 => ((laws_toBits.f k a0_0 l0_1).bind fun bt205 => ((laws_toBits.f k a1_0 l1_1).bind fun bt210 => ((impl_BothBits.f k bt205.1 bt205.2 bt210.1 bt210.2).bind fun bt215 => ((laws_eqBits.f k bt215.1 bt215.2.1 bt199.1 bt199.2.1).bind fun t221 => (if t221 = true then (if (bt215.2.2 != bt199.2.2) = true then (some false) else ((laws_toBits.f k a0_0 l0_1).bind fun bt222 => ((laws_eqBits.f k bt205.1 bt205.2 bt222.1 bt222.2).bind fun t226 => (if t226 = true then ((laws_toBits.f k a1_0 l1_1).bind fun bt227 => ((laws_eqBits.f k bt210.1 bt210.2 bt227.1 bt227.2).bind fun t231 => (if t231 = true then ((laws_markBits.f k bt205.1 bt205.2 1).bind fun bt232 => ((laws_markBits.f k bt210.1 bt210.2 bt232.1).bind fun bt234 => (if bt234.1 < 0 then (some false) else ((laws_eqBits.f k bt215.1 bt215.2.1 bt199.1 bt199.2.1).bind fun t236 => (if t236 = true then ((laws_markBits.f k bt215.1 bt215.2.1 1).bind fun bt237 => ((laws_heldBits.f k bt215.1 bt237.2 1).bind fun t239 => (if t239 < 0 then (some false) else (if t239 = bt237.1 then ((laws_toBits.f k a0_0 l0_1).bind fun bt240 => ((laws_toBits.f k a1_0 l1_1).bind fun bt244 => ((impl_BothBits.f k bt240.1 bt240.2 bt244.1 bt244.2).bind fun bt248 => ((laws_eqBits.f k bt248.1 bt248.2.1 bt199.1 bt199.2.1).bind fun t254 => (if t254 = true then (if (bt248.2.2 != bt199.2.2) = true then (some false) else ((laws_heldBits.f k bt215.1 bt237.2 1).bind fun t255 => (if t255 < 0 then (some false) else (if t255 = bt237.1 then (some true) else (some false))))) else (some false)))))) else (some false))))) else (some false)))))) else (some false)))) else (some false))))) else (some false))))))))))))) = some r := h
 clear h
 replace H := Option.bind_eq_some_iff.mp H
 obtain ⟨t189, A30, H⟩ := H
 try dsimp only at H
 have A3 := qm_ A30
 clear A30
 by_cases c4 : t189 < 0
 rotate_left
 ·rw [if_neg c4] at H
  have c4b0 : decide (t189 < 0) = false := decide_eq_false c4
  clear c4
  replace H := Option.bind_eq_some_iff.mp H
  obtain ⟨t190, A50, H⟩ := H
  try dsimp only at H
  have A5 := qm_ A50
  clear A50
  by_cases c6 : t190 < 0
  rotate_left
  ·rw [if_neg c6] at H
   have c6b0 : decide (t190 < 0) = false := decide_eq_false c6
   clear c6
   replace H := Option.bind_eq_some_iff.mp H
   obtain ⟨⟨t191, t192⟩, A70, H⟩ := H
   try dsimp only at H
   have A7 := qm_ A70
   clear A70
   replace H := Option.bind_eq_some_iff.mp H
   obtain ⟨⟨t195, t196⟩, A80, H⟩ := H
   try dsimp only at H
   have A8 := qm_ A80
   clear A80
   replace H := Option.bind_eq_some_iff.mp H
   obtain ⟨⟨t199, t200, t203⟩, A90, H⟩ := H
   try dsimp only at H
   have A9 := qm_ A90
   clear A90
   replace H := Option.bind_eq_some_iff.mp H
   obtain ⟨⟨t205, t206⟩, A100, H⟩ := H
   try dsimp only at H
   have A10 := qm_ A100
   clear A100
   replace H := Option.bind_eq_some_iff.mp H
   obtain ⟨⟨t210, t211⟩, A110, H⟩ := H
   try dsimp only at H
   have A11 := qm_ A110
   clear A110
   replace H := Option.bind_eq_some_iff.mp H
   obtain ⟨⟨t215, t216, t219⟩, A120, H⟩ := H
   try dsimp only at H
   have A12 := qm_ A120
   clear A120
   replace H := Option.bind_eq_some_iff.mp H
   obtain ⟨t221, A130, H⟩ := H
   try dsimp only at H
   have A13 := qm_ A130
   clear A130
   by_cases c14 : t221 = true
   rotate_left
   ·replace c14 := Bool.eq_false_iff.mpr c14
    subst c14
    rw [if_neg (show ¬ (false = true) by decide)] at H
    obtain rfl := Option.some.inj H
    exact absurd ht_.out (by simp)
   subst c14
   rw [if_pos rfl] at H
   by_cases c15 : (t219 != t203) = true
   rotate_left
   ·rw [if_neg c15] at H
    have c15b0 : (t219 != t203) = false := by simpa using c15
    (try (have c15b1 : decide (t219 = t203) = true := by simpa using c15))
    (try (have c15b2 : (t219 == t203) = true := by simpa using c15))
    clear c15
    replace H := Option.bind_eq_some_iff.mp H
    obtain ⟨⟨t222, t223⟩, A160, H⟩ := H
    try dsimp only at H
    have A16 := qm_ A160
    clear A160
    replace H := Option.bind_eq_some_iff.mp H
    obtain ⟨t226, A170, H⟩ := H
    try dsimp only at H
    have A17 := qm_ A170
    clear A170
    by_cases c18 : t226 = true
    rotate_left
    ·replace c18 := Bool.eq_false_iff.mpr c18
     subst c18
     rw [if_neg (show ¬ (false = true) by decide)] at H
     obtain rfl := Option.some.inj H
     exact absurd ht_.out (by simp)
    subst c18
    rw [if_pos rfl] at H
    replace H := Option.bind_eq_some_iff.mp H
    obtain ⟨⟨t227, t228⟩, A190, H⟩ := H
    try dsimp only at H
    have A19 := qm_ A190
    clear A190
    replace H := Option.bind_eq_some_iff.mp H
    obtain ⟨t231, A200, H⟩ := H
    try dsimp only at H
    have A20 := qm_ A200
    clear A200
    by_cases c21 : t231 = true
    rotate_left
    ·replace c21 := Bool.eq_false_iff.mpr c21
     subst c21
     rw [if_neg (show ¬ (false = true) by decide)] at H
     obtain rfl := Option.some.inj H
     exact absurd ht_.out (by simp)
    subst c21
    rw [if_pos rfl] at H
    replace H := Option.bind_eq_some_iff.mp H
    obtain ⟨⟨t232, t233⟩, A220, H⟩ := H
    try dsimp only at H
    have A22 := qm_ A220
    clear A220
    replace H := Option.bind_eq_some_iff.mp H
    obtain ⟨⟨t234, t235⟩, A230, H⟩ := H
    try dsimp only at H
    have A23 := qm_ A230
    clear A230
    by_cases c24 : t234 < 0
    rotate_left
    ·rw [if_neg c24] at H
     have c24b0 : decide (t234 < 0) = false := decide_eq_false c24
     clear c24
     replace H := Option.bind_eq_some_iff.mp H
     obtain ⟨t236, A250, H⟩ := H
     try dsimp only at H
     have A25 := qm_ A250
     clear A250
     by_cases c26 : t236 = true
     rotate_left
     ·replace c26 := Bool.eq_false_iff.mpr c26
      subst c26
      rw [if_neg (show ¬ (false = true) by decide)] at H
      obtain rfl := Option.some.inj H
      exact absurd ht_.out (by simp)
     subst c26
     rw [if_pos rfl] at H
     replace H := Option.bind_eq_some_iff.mp H
     obtain ⟨⟨t237, t238⟩, A270, H⟩ := H
     try dsimp only at H
     have A27 := qm_ A270
     clear A270
     replace H := Option.bind_eq_some_iff.mp H
     obtain ⟨t239, A280, H⟩ := H
     try dsimp only at H
     have A28 := qm_ A280
     clear A280
     by_cases c29 : t239 < 0
     rotate_left
     ·rw [if_neg c29] at H
      have c29b0 : decide (t239 < 0) = false := decide_eq_false c29
      clear c29
      by_cases c30 : t239 = t237
      rotate_left
      ·rw [if_neg c30] at H
       have c30b0 : (t239 == t237) = false := beq_eq_false_iff_ne.mpr c30
       have c30b1 : (t239 != t237) = true := bne_iff_ne.mpr c30
       obtain rfl := Option.some.inj H
       exact absurd ht_.out (by simp)
      rw [if_pos c30] at H
      have c30b0 : (t239 == t237) = true := beq_iff_eq.mpr c30
      have c30b1 : (t239 != t237) = false := bne_eq_false_iff_eq.mpr c30
      clear c30
      replace H := Option.bind_eq_some_iff.mp H
      obtain ⟨⟨t240, t241⟩, A310, H⟩ := H
      try dsimp only at H
      have A31 := qm_ A310
      clear A310
      replace H := Option.bind_eq_some_iff.mp H
      obtain ⟨⟨t244, t245⟩, A320, H⟩ := H
      try dsimp only at H
      have A32 := qm_ A320
      clear A320
      replace H := Option.bind_eq_some_iff.mp H
      obtain ⟨⟨t248, t249, t252⟩, A330, H⟩ := H
      try dsimp only at H
      have A33 := qm_ A330
      clear A330
      replace H := Option.bind_eq_some_iff.mp H
      obtain ⟨t254, A340, H⟩ := H
      try dsimp only at H
      have A34 := qm_ A340
      clear A340
      by_cases c35 : t254 = true
      rotate_left
      ·replace c35 := Bool.eq_false_iff.mpr c35
       subst c35
       rw [if_neg (show ¬ (false = true) by decide)] at H
       obtain rfl := Option.some.inj H
       exact absurd ht_.out (by simp)
      subst c35
      rw [if_pos rfl] at H
      by_cases c36 : (t252 != t203) = true
      rotate_left
      ·rw [if_neg c36] at H
       have c36b0 : (t252 != t203) = false := by simpa using c36
       (try (have c36b1 : decide (t252 = t203) = true := by simpa using c36))
       (try (have c36b2 : (t252 == t203) = true := by simpa using c36))
       clear c36
       replace H := Option.bind_eq_some_iff.mp H
       obtain ⟨t255, A370, H⟩ := H
       try dsimp only at H
       have A37 := qm_ A370
       clear A370
       by_cases c38 : t255 < 0
       rotate_left
       ·rw [if_neg c38] at H
        have c38b0 : decide (t255 < 0) = false := decide_eq_false c38
        clear c38
        by_cases c39 : t255 = t237
        rotate_left
        ·rw [if_neg c39] at H
         have c39b0 : (t255 == t237) = false := beq_eq_false_iff_ne.mpr c39
         have c39b1 : (t255 != t237) = true := bne_iff_ne.mpr c39
         obtain rfl := Option.some.inj H
         exact absurd ht_.out (by simp)
        rw [if_pos c39] at H
        have c39b0 : (t255 == t237) = true := beq_iff_eq.mpr c39
        have c39b1 : (t255 != t237) = false := bne_eq_false_iff_eq.mpr c39
        clear c39
        obtain rfl := Option.some.inj H
        go_enter Try.func9, Try.ntmps9
        try go_wp2_with (first | ((with_reducible refine gate_dst (N := 2) rfl ?_); refine box_event ?hg (N := 2) ?hd (cs := #[.int .i64 a0_0, .slice A0_1 l0_1.length c0_1]) (t := 34) ?hr ?_; (case hd => rfl); (case hg => rfl); (case hr => first | (go_simp; done) | (go_simp; rfl)); intro gb187 hg w40 hbox hb; have n0_ := qm_ (qh_ (by repeat (first | (with_reducible first | exact HB.out | apply qc_ | apply qx_ | apply qf_) | exact HB.out)) hb); have n1_ := qm_ (hbox); have n2_ := qm_ ((by rw [hg]; exact (qz_ (by repeat (first | (with_reducible first | exact HB.out | apply qc_ | apply qx_ | apply qf_) | exact HB.out))) : w.heap.size ≤ gb187)); have n3_ := qm_ ((by rw [hg]; exact (qz_ (by repeat (first | (with_reducible first | exact HB.out | apply qc_ | apply qx_ | apply qf_) | exact HB.out))) : w.heap.size ≤ gb187)); clear HB; have HB := n0_; have BK187 := n1_; have GW187 := n2_; have GE187 := n3_; clear n0_ n1_ n2_ n3_; clear hb hbox hg) | ((with_reducible refine gate_dst (N := 3) rfl ?_); refine box_event ?hg (N := 3) ?hd (cs := #[.int .i64 a1_0, .slice A1_1 l1_1.length c1_1]) (t := 34) ?hr ?_; (case hd => rfl); (case hg => rfl); (case hr => first | (go_simp; done) | (go_simp; rfl)); intro gb188 hg w41 hbox hb; have n0_ := qm_ (qs_ (g := gb187) (o := .cells #[.int .i64 a0_0, .slice A0_1 l0_1.length c0_1] 34 (0, 0)) (by (with_reducible repeat (first | refine qu_ ?_ _ | refine qv_ ?_ | refine qw_ ?_ _)); exact BK187.out) hb); have n1_ := qm_ (qh_ (by repeat (first | (with_reducible first | exact HB.out | apply qc_ | apply qx_ | apply qf_ | refine qg_ ?_ GE187.out) | exact HB.out)) hb); have n2_ := qm_ (hbox); have n3_ := qm_ ((by rw [hg]; exact (qz_ (by repeat (first | (with_reducible first | exact HB.out | apply qc_ | apply qx_ | apply qf_ | refine qg_ ?_ GE187.out) | exact HB.out))) : w.heap.size ≤ gb188)); have n4_ := qm_ ((by rw [hg]; exact (qz_ (by repeat (first | (with_reducible first | exact HB.out | apply qc_ | apply qx_ | apply qf_ | refine qg_ ?_ GE187.out) | exact HB.out))) : w.heap.size ≤ gb188)); have n5_ := qm_ ((by rw [hg]; exact Nat.ne_of_lt (blk_lt (g := gb187) (o := .cells #[.int .i64 a0_0, .slice A0_1 l0_1.length c0_1] 34 (0, 0)) (by (with_reducible repeat (first | refine qu_ ?_ _ | refine qv_ ?_ | refine qw_ ?_ _)); exact BK187.out)) : gb187 ≠ gb188)); have n6_ := qm_ ((by rw [hg]; exact Nat.ne_of_gt (blk_lt (g := gb187) (o := .cells #[.int .i64 a0_0, .slice A0_1 l0_1.length c0_1] 34 (0, 0)) (by (with_reducible repeat (first | refine qu_ ?_ _ | refine qv_ ?_ | refine qw_ ?_ _)); exact BK187.out)) : gb188 ≠ gb187)); clear BK187; clear HB; have BK187 := n0_; have HB := n1_; have BK188 := n2_; have GW188 := n3_; have GE188 := n4_; have NB187_188 := n5_; have NB188_187 := n6_; clear n0_ n1_ n2_ n3_ n4_ n5_ n6_; clear hb hbox hg; have hnb42 := NB187_188.out; have hnc42 := NB188_187.out; have hcz43_0 : w41.cell? ⟨gb187, 0, none⟩ = some (.int .i64 a0_0) := (blk_cell BK187.out 0).trans rfl; have hcz43_1 : w41.cell? ⟨gb187, 1, none⟩ = some (.slice A0_1 l0_1.length c0_1) := (blk_cell BK187.out 1).trans rfl; have hfz43_0 := blk_frozen BK187.out 0; have hfz43_1 := blk_frozen BK187.out 1) | ((with_reducible refine gate_callee (f := 22) rfl ?_); refine goesL_ (some 19) rfl rfl Try.func22 (by kernel_rfl) rfl #[.agg #[.int .i64 a0_0, .slice A0_1 l0_1.length c0_1], .int .i64 1048576] rfl (by (try simp only [List.map_toArray, List.map_cons, List.map_nil]); first | done | rfl | (simp only [List.length_drop, List.length_take]; rfl)) ?_; (with_reducible refine (laws_szBits.calls a0_0 _ _ l0_1 1048576 t189 _ ?side1 ?side2 A3.out).mono ?_); (case side1 => repeat (first | exact (Kd.C_below HR0_1.out HB.out) | (with_reducible refine Kd.C_alloc ?_ _) | (with_reducible refine Kd.C_drewN ?_ _) | (with_reducible refine Kd.C_drew ?_))); (case side2 => exact HC0_1.out); rintro e w44 ⟨rfl, hb⟩; refine ⟨_, rfl, ?_⟩; have n0_ := qm_ (qs_ (g := gb187) (o := .cells #[.int .i64 a0_0, .slice A0_1 l0_1.length c0_1] 34 (0, 0)) (by (with_reducible repeat (first | refine qu_ ?_ _ | refine qv_ ?_ | refine qw_ ?_ _)); exact BK187.out) hb); have n1_ := qm_ (qs_ (g := gb188) (o := .cells #[.int .i64 a1_0, .slice A1_1 l1_1.length c1_1] 34 (0, 0)) (by (with_reducible repeat (first | refine qu_ ?_ _ | refine qv_ ?_ | refine qw_ ?_ _)); exact BK188.out) hb); have n2_ := qm_ (qh_ (by repeat (first | (with_reducible first | exact HB.out | apply qc_ | apply qx_ | apply qf_ | refine qg_ ?_ GE187.out | refine qg_ ?_ GE188.out) | exact HB.out)) hb); clear BK187; clear BK188; clear HB; have BK187 := n0_; have BK188 := n1_; have HB := n2_; clear n0_ n1_ n2_; (try clear hb); (try clear hb2); (try clear hk); (try clear hi); have hcz45_0 : w44.cell? ⟨gb188, 0, none⟩ = some (.int .i64 a1_0) := (blk_cell BK188.out 0).trans rfl; have hcz45_1 : w44.cell? ⟨gb188, 1, none⟩ = some (.slice A1_1 l1_1.length c1_1) := (blk_cell BK188.out 1).trans rfl; have hfz45_0 := blk_frozen BK188.out 0; have hfz45_1 := blk_frozen BK188.out 1) | ((with_reducible refine gate_callee (f := 22) rfl ?_); refine goesL_ (some 24) rfl rfl Try.func22 (by kernel_rfl) rfl #[.agg #[.int .i64 a1_0, .slice A1_1 l1_1.length c1_1], .int .i64 t189] rfl (by (try simp only [List.map_toArray, List.map_cons, List.map_nil]); first | done | rfl | (simp only [List.length_drop, List.length_take]; rfl)) ?_; (with_reducible refine (laws_szBits.calls a1_0 _ _ l1_1 t189 t190 _ ?side1 ?side2 A5.out).mono ?_); (case side1 => repeat (first | exact (Kd.C_below HR1_1.out HB.out) | (with_reducible refine Kd.C_alloc ?_ _) | (with_reducible refine Kd.C_drewN ?_ _) | (with_reducible refine Kd.C_drew ?_))); (case side2 => exact HC1_1.out); rintro e w46 ⟨rfl, hb⟩; refine ⟨_, rfl, ?_⟩; have n0_ := qm_ (qs_ (g := gb187) (o := .cells #[.int .i64 a0_0, .slice A0_1 l0_1.length c0_1] 34 (0, 0)) (by (with_reducible repeat (first | refine qu_ ?_ _ | refine qv_ ?_ | refine qw_ ?_ _)); exact BK187.out) hb); have n1_ := qm_ (qs_ (g := gb188) (o := .cells #[.int .i64 a1_0, .slice A1_1 l1_1.length c1_1] 34 (0, 0)) (by (with_reducible repeat (first | refine qu_ ?_ _ | refine qv_ ?_ | refine qw_ ?_ _)); exact BK188.out) hb); have n2_ := qm_ (qh_ (by repeat (first | (with_reducible first | exact HB.out | apply qc_ | apply qx_ | apply qf_ | refine qg_ ?_ GE187.out | refine qg_ ?_ GE188.out) | exact HB.out)) hb); clear BK187; clear BK188; clear HB; have BK187 := n0_; have BK188 := n1_; have HB := n2_; clear n0_ n1_ n2_; (try clear hb); (try clear hb2); (try clear hk); (try clear hi)))
        have n0_ := qm_ (qv_ BK187.out)
        have n1_ := qm_ (qv_ BK188.out)
        have n2_ := qm_ (qf_ HB.out)
        clear BK187
        clear BK188
        clear HB
        have BK187 := n0_
        have BK188 := n1_
        have HB := n2_
        clear n0_ n1_ n2_
        refine start_ (n := 11) (S := fun w' => True) (ds := []) #[false, false, false, false, false, false, false, false, false, false, false] (by kernel_rfl) rfl rfl trivial (fun hHeld => ?_); refine with_tabW laws_FnExactBothBits.tab8 laws_FnExactBothBits.bits8 (fun HT_ HW_ => ?_)
        generalize w46.drew = w47 at BK187 BK188 HB hHeld ⊢
        refine inv_at [0, 1, 2, 3, 4, 5, 6, 7, 8, 9, 10] (fun a0_ b a w' => ∃ (v193 : Value) (v197 : Value) (v201 : Value) (gb204 : Nat) (m1_ : Value) (m3_ : Value) (m4_ : Value) (m5_ : Value) (m6_ : Value) (m8_ : Value), a = putSel a0_ b [(0, 28, .agg #[.int .i64 a0_0, .slice A0_1 l0_1.length c0_1]), (1, 29, m1_), (2, 30, .agg #[.int .i64 a1_0, .slice A1_1 l1_1.length c1_1]), (3, 31, m3_), (4, 32, m4_), (5, 27, m5_), (6, 33, m6_), (7, 34, .bool t203), (8, 6, m8_), (10, 7, .bool t203)] ∧ (w'.heap[gb187]? = some (.cells #[.int .i64 a0_0, .slice A0_1 l0_1.length c0_1] 34 (0, 0))) ∧ (w'.heap[gb188]? = some (.cells #[.int .i64 a1_0, .slice A1_1 l1_1.length c1_1] 34 (0, 0))) ∧ (Below w.heap.size w w') ∧ (b 1 = true → Kd.R (Kd.int .i64) 3 w' w.heap.size (fun _ => True) v193 t192) ∧ (b 3 = true → Kd.R (Kd.int .i64) 3 w' w.heap.size (fun _ => True) v197 t196) ∧ (b 4 = true → Kd.R (Kd.int .i64) 3 w' w.heap.size (fun _ => True) v201 t200) ∧ (b 8 = true → b 9 = false → w'.heap[gb204]? = some (.cells #[.int .i64 0, .slice none 0 0] 24 (0, 0))) ∧ (b 8 = true → w.heap.size ≤ gb204) ∧ (b 8 = true → w.heap.size ≤ gb204) ∧ (b 8 = true → gb187 ≠ gb204) ∧ (b 8 = true → gb204 ≠ gb187) ∧ (b 8 = true → gb188 ≠ gb204) ∧ (b 8 = true → gb204 ≠ gb188) ∧ (b 9 = true → w'.heap[gb204]? = some (.cells #[.int .i64 t199, v201] 24 (0, 0))) ∧ (b 1 = true → (m1_ : Value) = .agg #[.int .i64 t191, v193]) ∧ (b 3 = true → (m3_ : Value) = .agg #[.int .i64 t195, v197]) ∧ (b 4 = true → (m4_ : Value) = .tuple #[.agg #[.int .i64 t199, v201], .bool t203]) ∧ (b 5 = true → (m5_ : Value) = .tuple #[.agg #[.int .i64 t199, v201], .bool t203]) ∧ (b 6 = true → (m6_ : Value) = .agg #[.int .i64 t199, v201]) ∧ (b 8 = true → (m8_ : Value) = .pointer (some ⟨gb204, 0, none⟩))) HT_.out HW_.out (by kernel_rfl) (by kernel_rfl) ?_ ?_ ?_
        ·exact ⟨.bool false, .bool false, .bool false, 0, .bool false, .bool false, .bool false, .bool false, .bool false, .bool false, by simp only [putSel, Bool.false_eq_true, if_false], BK187.out, BK188.out, HB.out, fun h_ => absurd h_ (by decide), fun h_ => absurd h_ (by decide), fun h_ => absurd h_ (by decide), fun h_ => absurd h_ (by decide), fun h_ => absurd h_ (by decide), fun h_ => absurd h_ (by decide), fun h_ => absurd h_ (by decide), fun h_ => absurd h_ (by decide), fun h_ => absurd h_ (by decide), fun h_ => absurd h_ (by decide), fun h_ => absurd h_ (by decide), fun h_ => absurd h_ (by decide), fun h_ => absurd h_ (by decide), fun h_ => absurd h_ (by decide), fun h_ => absurd h_ (by decide), fun h_ => absurd h_ (by decide), fun h_ => absurd h_ (by decide)⟩
        ·skip
         clear BK187 BK188 HB
         refine steps_cons ?_ ?_
         ·rintro b a w' ⟨v193, v197, v201, gb204, m1_, m3_, m4_, m5_, m6_, m8_, ha, Q_BK187, Q_BK188, Q_HB, Q_HO194, Q_HO198, Q_HO202, Q_BK204, Q_GW204, Q_GE204, Q_NB187_204, Q_NB204_187, Q_NB188_204, Q_NB204_188, Q_BK204_e9, Q_X1_, Q_X3_, Q_X4_, Q_X5_, Q_X6_, Q_X8_⟩ hb_ hon hoff
          refine ⟨_, rfl, fun K hK => ?_⟩
          have e2 : a.tmps[2]? = some (.pointer (some ⟨gb187, 0, none⟩)) := by rw [ha]; exact (putSel_off rfl).trans rfl
          replace ha := qm_ ha
          have BK187 := qm_ Q_BK187
          have BK188 := qm_ Q_BK188
          have HB := qm_ Q_HB
          have hc0_ : w'.cell? ⟨gb187, 0, none⟩ = some (.int .i64 a0_0) := (blk_cell BK187.out 0).trans rfl
          have hc1_ : w'.cell? ⟨gb187, 1, none⟩ = some (.slice A0_1 l0_1.length c0_1) := (blk_cell BK187.out 1).trans rfl
          refine value_ (w1 := w') (v := .agg #[.int .i64 a0_0, .slice A0_1 l0_1.length c0_1]) (by rfl) rfl ?_ ?_
          ·go_simp
           (try simp only [i64_w])
           try rfl
          refine hK.out _ _ ⟨v193, v197, v201, gb204, m1_, m3_, m4_, m5_, m6_, m8_, (by rw [ha.out]; exact putSel_upk 0 hb_ rfl rfl rfl), Q_BK187, Q_BK188, Q_HB, fun h0_ => absurd ((hoff 1 (by kernel_rfl)).symm.trans h0_) (by decide), fun h0_ => absurd ((hoff 3 (by kernel_rfl)).symm.trans h0_) (by decide), fun h0_ => absurd ((hoff 4 (by kernel_rfl)).symm.trans h0_) (by decide), Q_BK204, Q_GW204, Q_GE204, Q_NB187_204, Q_NB204_187, Q_NB188_204, Q_NB204_188, fun h0_ => absurd ((hoff 9 (by kernel_rfl)).symm.trans h0_) (by decide), fun h0_ => absurd ((hoff 1 (by kernel_rfl)).symm.trans h0_) (by decide), fun h0_ => absurd ((hoff 3 (by kernel_rfl)).symm.trans h0_) (by decide), fun h0_ => absurd ((hoff 4 (by kernel_rfl)).symm.trans h0_) (by decide), fun h0_ => absurd ((hoff 5 (by kernel_rfl)).symm.trans h0_) (by decide), fun h0_ => absurd ((hoff 6 (by kernel_rfl)).symm.trans h0_) (by decide), Q_X8_⟩
         refine steps_cons ?_ ?_
         ·rintro b a w' ⟨v193, v197, v201, gb204, m1_, m3_, m4_, m5_, m6_, m8_, ha, Q_BK187, Q_BK188, Q_HB, Q_HO194, Q_HO198, Q_HO202, Q_BK204, Q_GW204, Q_GE204, Q_NB187_204, Q_NB204_187, Q_NB188_204, Q_NB204_188, Q_BK204_e9, Q_X1_, Q_X3_, Q_X4_, Q_X5_, Q_X6_, Q_X8_⟩ hb_ hon hoff
          refine ⟨_, rfl, fun K hK => ?_⟩
          have e28 : a.tmps[28]? = some (.agg #[.int .i64 a0_0, .slice A0_1 l0_1.length c0_1]) := by rw [ha]; exact putSel_on (e := (0, 28, .agg #[.int .i64 a0_0, .slice A0_1 l0_1.length c0_1])) 0 rfl rfl (hon 0 (by kernel_rfl)) rfl
          replace ha := qm_ ha
          have BK187 := qm_ Q_BK187
          have BK188 := qm_ Q_BK188
          have HB := qm_ Q_HB
          refine goes_ Try.func24 (by kernel_rfl) rfl #[.agg #[.int .i64 a0_0, .slice A0_1 l0_1.length c0_1]] (by rfl) rfl rfl (by first | (simp only [List.map_toArray, List.map_cons, List.map_nil, Act.eval, Array.getD_eq_getD_getElem?, Option.getD_some, e28]; done) | (simp only [List.map_toArray, List.map_cons, List.map_nil, Act.eval, Array.getD_eq_getD_getElem?, Option.getD_some, e28]; rfl)) ?_
          with_reducible refine (laws_toBits.calls k a0_0 _ _ l0_1 t191 t192 _ ?side1 ?side2 A7.out).mono ?_
          (case side1 => repeat (first | exact (Kd.C_below HR0_1.out HB.out) | (with_reducible refine Kd.C_alloc ?_ _) | (with_reducible refine Kd.C_drewN ?_ _) | (with_reducible refine Kd.C_drew ?_)))
          (case side2 => exact HC0_1.out)
          rintro e w48 ⟨v193, rfl, ho0, hb⟩
          refine ⟨_, rfl, ?_⟩
          have n0_ := qm_ (ql_ ho0 (qz_ (by repeat (first | (with_reducible first | exact HB.out | apply qc_ | apply qx_ | apply qf_ | refine qg_ ?_ GE187.out | refine qg_ ?_ GE188.out) | exact HB.out))))
          have n1_ := qm_ (qs_ (g := gb187) (o := .cells #[.int .i64 a0_0, .slice A0_1 l0_1.length c0_1] 34 (0, 0)) (by (with_reducible repeat (first | refine qu_ ?_ _ | refine qv_ ?_ | refine qw_ ?_ _)); exact BK187.out) hb)
          have n2_ := qm_ (qs_ (g := gb188) (o := .cells #[.int .i64 a1_0, .slice A1_1 l1_1.length c1_1] 34 (0, 0)) (by (with_reducible repeat (first | refine qu_ ?_ _ | refine qv_ ?_ | refine qw_ ?_ _)); exact BK188.out) hb)
          have n3_ := qm_ (qh_ (by repeat (first | (with_reducible first | exact HB.out | apply qc_ | apply qx_ | apply qf_ | refine qg_ ?_ GE187.out | refine qg_ ?_ GE188.out) | exact HB.out)) hb)
          have z_BK204 := fun (h0_ : b 8 = true) (h1_ : b 9 = false) => (show w48.heap[gb204]? = some (.cells #[.int .i64 0, .slice none 0 0] 24 (0, 0)) from by first | exact (qs_ (g := gb204) (o := .cells #[.int .i64 0, .slice none 0 0] 24 (0, 0)) (by (with_reducible repeat (first | refine qu_ ?_ _ | refine qv_ ?_ | refine qw_ ?_ _)); exact (Q_BK204 h0_ h1_)) hb))
          clear BK187
          clear BK188
          clear HB
          have HO194 := n0_
          have BK187 := n1_
          have BK188 := n2_
          have HB := n3_
          clear n0_ n1_ n2_ n3_
          (try clear hb)
          (try clear hb2)
          (try clear hk)
          (try clear hi)
          (try clear ho0)
          refine hK.out _ _ ⟨v193, v197, v201, gb204, (.agg #[.int .i64 t191, v193]), m3_, m4_, m5_, m6_, m8_, (by rw [ha.out]; exact putSel_upk 1 hb_ rfl rfl rfl), (by (with_reducible repeat (first | refine qu_ ?_ _ | refine qv_ ?_ | refine qw_ ?_ _)); exact BK187.out), (by (with_reducible repeat (first | refine qu_ ?_ _ | refine qv_ ?_ | refine qw_ ?_ _)); exact BK188.out), (by repeat (first | (with_reducible first | exact HB.out | apply qc_ | apply qx_ | apply qf_ | refine qg_ ?_ GE187.out | refine qg_ ?_ GE188.out) | exact HB.out)), fun _ => (by (with_reducible repeat (first | apply qa_ | apply qn_ | apply qd_)); exact HO194.out), fun h0_ => absurd ((hoff 3 (by kernel_rfl)).symm.trans h0_) (by decide), fun h0_ => absurd ((hoff 4 (by kernel_rfl)).symm.trans h0_) (by decide), z_BK204, Q_GW204, Q_GE204, Q_NB187_204, Q_NB204_187, Q_NB188_204, Q_NB204_188, fun h0_ => absurd ((hoff 9 (by kernel_rfl)).symm.trans h0_) (by decide), fun _ => rfl, fun h0_ => absurd ((hoff 3 (by kernel_rfl)).symm.trans h0_) (by decide), fun h0_ => absurd ((hoff 4 (by kernel_rfl)).symm.trans h0_) (by decide), fun h0_ => absurd ((hoff 5 (by kernel_rfl)).symm.trans h0_) (by decide), fun h0_ => absurd ((hoff 6 (by kernel_rfl)).symm.trans h0_) (by decide), Q_X8_⟩
         refine steps_cons ?_ ?_
         ·rintro b a w' ⟨v193, v197, v201, gb204, m1_, m3_, m4_, m5_, m6_, m8_, ha, Q_BK187, Q_BK188, Q_HB, Q_HO194, Q_HO198, Q_HO202, Q_BK204, Q_GW204, Q_GE204, Q_NB187_204, Q_NB204_187, Q_NB188_204, Q_NB204_188, Q_BK204_e9, Q_X1_, Q_X3_, Q_X4_, Q_X5_, Q_X6_, Q_X8_⟩ hb_ hon hoff
          refine ⟨_, rfl, fun K hK => ?_⟩
          have e3 : a.tmps[3]? = some (.pointer (some ⟨gb188, 0, none⟩)) := by rw [ha]; exact (putSel_off rfl).trans rfl
          replace ha := qm_ ha
          have BK187 := qm_ Q_BK187
          have BK188 := qm_ Q_BK188
          have HB := qm_ Q_HB
          have hc0_ : w'.cell? ⟨gb188, 0, none⟩ = some (.int .i64 a1_0) := (blk_cell BK188.out 0).trans rfl
          have hc1_ : w'.cell? ⟨gb188, 1, none⟩ = some (.slice A1_1 l1_1.length c1_1) := (blk_cell BK188.out 1).trans rfl
          refine value_ (w1 := w') (v := .agg #[.int .i64 a1_0, .slice A1_1 l1_1.length c1_1]) (by rfl) rfl ?_ ?_
          ·go_simp
           (try simp only [i64_w])
           try rfl
          refine hK.out _ _ ⟨v193, v197, v201, gb204, m1_, m3_, m4_, m5_, m6_, m8_, (by rw [ha.out]; exact putSel_upk 2 hb_ rfl rfl rfl), Q_BK187, Q_BK188, Q_HB, Q_HO194, fun h0_ => absurd ((hoff 3 (by kernel_rfl)).symm.trans h0_) (by decide), fun h0_ => absurd ((hoff 4 (by kernel_rfl)).symm.trans h0_) (by decide), Q_BK204, Q_GW204, Q_GE204, Q_NB187_204, Q_NB204_187, Q_NB188_204, Q_NB204_188, fun h0_ => absurd ((hoff 9 (by kernel_rfl)).symm.trans h0_) (by decide), Q_X1_, fun h0_ => absurd ((hoff 3 (by kernel_rfl)).symm.trans h0_) (by decide), fun h0_ => absurd ((hoff 4 (by kernel_rfl)).symm.trans h0_) (by decide), fun h0_ => absurd ((hoff 5 (by kernel_rfl)).symm.trans h0_) (by decide), fun h0_ => absurd ((hoff 6 (by kernel_rfl)).symm.trans h0_) (by decide), Q_X8_⟩
         refine steps_cons ?_ ?_
         ·rintro b a w' ⟨v193, v197, v201, gb204, m1_, m3_, m4_, m5_, m6_, m8_, ha, Q_BK187, Q_BK188, Q_HB, Q_HO194, Q_HO198, Q_HO202, Q_BK204, Q_GW204, Q_GE204, Q_NB187_204, Q_NB204_187, Q_NB188_204, Q_NB204_188, Q_BK204_e9, Q_X1_, Q_X3_, Q_X4_, Q_X5_, Q_X6_, Q_X8_⟩ hb_ hon hoff
          refine ⟨_, rfl, fun K hK => ?_⟩
          have e30 : a.tmps[30]? = some (.agg #[.int .i64 a1_0, .slice A1_1 l1_1.length c1_1]) := by rw [ha]; exact putSel_on (e := (2, 30, .agg #[.int .i64 a1_0, .slice A1_1 l1_1.length c1_1])) 2 rfl rfl (hon 2 (by kernel_rfl)) rfl
          replace ha := qm_ ha
          have BK187 := qm_ Q_BK187
          have BK188 := qm_ Q_BK188
          have HB := qm_ Q_HB
          have HO194 := qm_ (Q_HO194 (hon 1 (by kernel_rfl)))
          refine goes_ Try.func24 (by kernel_rfl) rfl #[.agg #[.int .i64 a1_0, .slice A1_1 l1_1.length c1_1]] (by rfl) rfl rfl (by first | (simp only [List.map_toArray, List.map_cons, List.map_nil, Act.eval, Array.getD_eq_getD_getElem?, Option.getD_some, e30]; done) | (simp only [List.map_toArray, List.map_cons, List.map_nil, Act.eval, Array.getD_eq_getD_getElem?, Option.getD_some, e30]; rfl)) ?_
          with_reducible refine (laws_toBits.calls k a1_0 _ _ l1_1 t195 t196 _ ?side1 ?side2 A8.out).mono ?_
          (case side1 => repeat (first | exact (Kd.C_below HR1_1.out HB.out) | (with_reducible refine Kd.C_alloc ?_ _) | (with_reducible refine Kd.C_drewN ?_ _) | (with_reducible refine Kd.C_drew ?_)))
          (case side2 => exact HC1_1.out)
          rintro e w50 ⟨v197, rfl, ho0, hb⟩
          refine ⟨_, rfl, ?_⟩
          have n0_ := qm_ (Kd.R_elder' (by (with_reducible repeat (first | apply qa_ | apply qn_ | apply qd_)); exact HO194.out) (Kd.R_base ho0) hb)
          have n1_ := qm_ (ql_ (qe_ ho0 (qt_ (by (with_reducible repeat (first | apply qa_ | apply qn_ | apply qd_)); exact HO194.out))) (qz_ (by repeat (first | (with_reducible first | exact HB.out | apply qc_ | apply qx_ | apply qf_ | refine qg_ ?_ GE187.out | refine qg_ ?_ GE188.out) | exact HB.out))))
          have n2_ := qm_ (qs_ (g := gb187) (o := .cells #[.int .i64 a0_0, .slice A0_1 l0_1.length c0_1] 34 (0, 0)) (by (with_reducible repeat (first | refine qu_ ?_ _ | refine qv_ ?_ | refine qw_ ?_ _)); exact BK187.out) hb)
          have n3_ := qm_ (qs_ (g := gb188) (o := .cells #[.int .i64 a1_0, .slice A1_1 l1_1.length c1_1] 34 (0, 0)) (by (with_reducible repeat (first | refine qu_ ?_ _ | refine qv_ ?_ | refine qw_ ?_ _)); exact BK188.out) hb)
          have n4_ := qm_ (qh_ (by repeat (first | (with_reducible first | exact HB.out | apply qc_ | apply qx_ | apply qf_ | refine qg_ ?_ GE187.out | refine qg_ ?_ GE188.out) | exact HB.out)) hb)
          have z_BK204 := fun (h0_ : b 8 = true) (h1_ : b 9 = false) => (show w50.heap[gb204]? = some (.cells #[.int .i64 0, .slice none 0 0] 24 (0, 0)) from by first | exact (qs_ (g := gb204) (o := .cells #[.int .i64 0, .slice none 0 0] 24 (0, 0)) (by (with_reducible repeat (first | refine qu_ ?_ _ | refine qv_ ?_ | refine qw_ ?_ _)); exact (Q_BK204 h0_ h1_)) hb))
          clear HO194
          clear BK187
          clear BK188
          clear HB
          have HO194 := n0_
          have HO198 := n1_
          have BK187 := n2_
          have BK188 := n3_
          have HB := n4_
          clear n0_ n1_ n2_ n3_ n4_
          (try clear hb)
          (try clear hb2)
          (try clear hk)
          (try clear hi)
          (try clear ho0)
          refine hK.out _ _ ⟨v193, v197, v201, gb204, m1_, (.agg #[.int .i64 t195, v197]), m4_, m5_, m6_, m8_, (by rw [ha.out]; exact putSel_upk 3 hb_ rfl rfl rfl), (by (with_reducible repeat (first | refine qu_ ?_ _ | refine qv_ ?_ | refine qw_ ?_ _)); exact BK187.out), (by (with_reducible repeat (first | refine qu_ ?_ _ | refine qv_ ?_ | refine qw_ ?_ _)); exact BK188.out), (by repeat (first | (with_reducible first | exact HB.out | apply qc_ | apply qx_ | apply qf_ | refine qg_ ?_ GE187.out | refine qg_ ?_ GE188.out) | exact HB.out)), fun _ => (by (with_reducible repeat (first | apply qa_ | apply qn_ | apply qd_)); exact Kd.R_mono HO194.out (fun _ _ => trivial)), fun _ => (by (with_reducible repeat (first | apply qa_ | apply qn_ | apply qd_)); exact Kd.R_mono HO198.out (fun _ _ => trivial)), fun h0_ => absurd ((hoff 4 (by kernel_rfl)).symm.trans h0_) (by decide), z_BK204, Q_GW204, Q_GE204, Q_NB187_204, Q_NB204_187, Q_NB188_204, Q_NB204_188, fun h0_ => absurd ((hoff 9 (by kernel_rfl)).symm.trans h0_) (by decide), Q_X1_, fun _ => rfl, fun h0_ => absurd ((hoff 4 (by kernel_rfl)).symm.trans h0_) (by decide), fun h0_ => absurd ((hoff 5 (by kernel_rfl)).symm.trans h0_) (by decide), fun h0_ => absurd ((hoff 6 (by kernel_rfl)).symm.trans h0_) (by decide), Q_X8_⟩
         refine steps_cons ?_ ?_
         ·rintro b a w' ⟨v193, v197, v201, gb204, m1_, m3_, m4_, m5_, m6_, m8_, ha, Q_BK187, Q_BK188, Q_HB, Q_HO194, Q_HO198, Q_HO202, Q_BK204, Q_GW204, Q_GE204, Q_NB187_204, Q_NB204_187, Q_NB188_204, Q_NB204_188, Q_BK204_e9, Q_X1_, Q_X3_, Q_X4_, Q_X5_, Q_X6_, Q_X8_⟩ hb_ hon hoff
          refine ⟨_, rfl, fun K hK => ?_⟩
          have e29 : a.tmps[29]? = some (m1_) := by rw [ha]; exact putSel_on (e := (1, 29, m1_)) 1 rfl rfl (hon 1 (by kernel_rfl)) rfl
          rw [Q_X1_ (hon 1 (by kernel_rfl))] at e29
          have e31 : a.tmps[31]? = some (m3_) := by rw [ha]; exact putSel_on (e := (3, 31, m3_)) 3 rfl rfl (hon 3 (by kernel_rfl)) rfl
          rw [Q_X3_ (hon 3 (by kernel_rfl))] at e31
          replace ha := qm_ ha
          have BK187 := qm_ Q_BK187
          have BK188 := qm_ Q_BK188
          have HB := qm_ Q_HB
          have HO194 := qm_ (Q_HO194 (hon 1 (by kernel_rfl)))
          have HO198 := qm_ (Q_HO198 (hon 3 (by kernel_rfl)))
          obtain ⟨Ao51, co51, eo51⟩ := Kd.R_slice HO194.out
          (first | subst eo51 | (injection eo51 with f1_ f2_ f3_; have f4_ := f1_.symm; have f5_ := f3_.symm; clear f1_ f2_ f3_; subst f4_; subst f5_))
          obtain ⟨Ao52, co52, eo52⟩ := Kd.R_slice HO198.out
          (first | subst eo52 | (injection eo52 with f1_ f2_ f3_; have f4_ := f1_.symm; have f5_ := f3_.symm; clear f1_ f2_ f3_; subst f4_; subst f5_))
          refine goes_ Try.func38 (by kernel_rfl) rfl #[.agg #[.int .i64 t191, .slice Ao51 t192.length co51], .agg #[.int .i64 t195, .slice Ao52 t196.length co52]] (by rfl) rfl rfl (by first | (simp only [List.map_toArray, List.map_cons, List.map_nil, Act.eval, Array.getD_eq_getD_getElem?, Option.getD_some, e29, e31]; done) | (simp only [List.map_toArray, List.map_cons, List.map_nil, Act.eval, Array.getD_eq_getD_getElem?, Option.getD_some, e29, e31]; rfl)) ?_
          with_reducible refine (spec_BothBits.calls k t191 _ _ t192 t195 _ _ t196 t199 t200 t203 _ ?side1 ?side2 ?side3 ?side4 A9.out).mono ?_
          (case side1 => repeat (first | exact (Kd.R_reads' HO194.out).2.2 | (with_reducible refine Kd.C_alloc ?_ _) | (with_reducible refine Kd.C_drewN ?_ _) | (with_reducible refine Kd.C_drew ?_)))
          (case side2 => exact (Kd.R_reads' HO194.out).2.1)
          (case side3 => repeat (first | exact (Kd.R_reads' HO198.out).2.2 | (with_reducible refine Kd.C_alloc ?_ _) | (with_reducible refine Kd.C_drewN ?_ _) | (with_reducible refine Kd.C_drew ?_)))
          (case side4 => exact (Kd.R_reads' HO198.out).2.1)
          rintro e w53 ⟨v201, rfl, ho0, hb⟩
          refine ⟨_, rfl, ?_⟩
          have n0_ := qm_ (Kd.R_elder' (by (with_reducible repeat (first | apply qa_ | apply qn_ | apply qd_)); exact HO194.out) (Kd.R_base ho0) hb)
          have n1_ := qm_ (Kd.R_elder' (by (with_reducible repeat (first | apply qa_ | apply qn_ | apply qd_)); exact HO198.out) (Kd.R_base ho0) hb)
          have n2_ := qm_ (ql_ (qe_ (qe_ ho0 (qt_ (by (with_reducible repeat (first | apply qa_ | apply qn_ | apply qd_)); exact HO194.out))) (qt_ (by (with_reducible repeat (first | apply qa_ | apply qn_ | apply qd_)); exact HO198.out))) (qz_ (by repeat (first | (with_reducible first | exact HB.out | apply qc_ | apply qx_ | apply qf_ | refine qg_ ?_ GE187.out | refine qg_ ?_ GE188.out) | exact HB.out))))
          have n3_ := qm_ (qs_ (g := gb187) (o := .cells #[.int .i64 a0_0, .slice A0_1 l0_1.length c0_1] 34 (0, 0)) (by (with_reducible repeat (first | refine qu_ ?_ _ | refine qv_ ?_ | refine qw_ ?_ _)); exact BK187.out) hb)
          have n4_ := qm_ (qs_ (g := gb188) (o := .cells #[.int .i64 a1_0, .slice A1_1 l1_1.length c1_1] 34 (0, 0)) (by (with_reducible repeat (first | refine qu_ ?_ _ | refine qv_ ?_ | refine qw_ ?_ _)); exact BK188.out) hb)
          have n5_ := qm_ (qh_ (by repeat (first | (with_reducible first | exact HB.out | apply qc_ | apply qx_ | apply qf_ | refine qg_ ?_ GE187.out | refine qg_ ?_ GE188.out) | exact HB.out)) hb)
          have z_BK204 := fun (h0_ : b 8 = true) (h1_ : b 9 = false) => (show w53.heap[gb204]? = some (.cells #[.int .i64 0, .slice none 0 0] 24 (0, 0)) from by first | exact (qs_ (g := gb204) (o := .cells #[.int .i64 0, .slice none 0 0] 24 (0, 0)) (by (with_reducible repeat (first | refine qu_ ?_ _ | refine qv_ ?_ | refine qw_ ?_ _)); exact (Q_BK204 h0_ h1_)) hb))
          clear HO194
          clear HO198
          clear BK187
          clear BK188
          clear HB
          have HO194 := n0_
          have HO198 := n1_
          have HO202 := n2_
          have BK187 := n3_
          have BK188 := n4_
          have HB := n5_
          clear n0_ n1_ n2_ n3_ n4_ n5_
          (try clear hb)
          (try clear hb2)
          (try clear hk)
          (try clear hi)
          (try clear ho0)
          refine hK.out _ _ ⟨.slice Ao51 t192.length co51, .slice Ao52 t196.length co52, v201, gb204, m1_, m3_, (.tuple #[.agg #[.int .i64 t199, v201], .bool t203]), m5_, m6_, m8_, (by rw [ha.out]; exact putSel_upk 4 hb_ rfl rfl rfl), (by (with_reducible repeat (first | refine qu_ ?_ _ | refine qv_ ?_ | refine qw_ ?_ _)); exact BK187.out), (by (with_reducible repeat (first | refine qu_ ?_ _ | refine qv_ ?_ | refine qw_ ?_ _)); exact BK188.out), (by repeat (first | (with_reducible first | exact HB.out | apply qc_ | apply qx_ | apply qf_ | refine qg_ ?_ GE187.out | refine qg_ ?_ GE188.out) | exact HB.out)), fun _ => (by (with_reducible repeat (first | apply qa_ | apply qn_ | apply qd_)); exact Kd.R_mono HO194.out (fun _ _ => trivial)), fun _ => (by (with_reducible repeat (first | apply qa_ | apply qn_ | apply qd_)); exact Kd.R_mono HO198.out (fun _ _ => trivial)), fun _ => (by (with_reducible repeat (first | apply qa_ | apply qn_ | apply qd_)); exact Kd.R_mono HO202.out (fun _ _ => trivial)), z_BK204, Q_GW204, Q_GE204, Q_NB187_204, Q_NB204_187, Q_NB188_204, Q_NB204_188, fun h0_ => absurd ((hoff 9 (by kernel_rfl)).symm.trans h0_) (by decide), Q_X1_, Q_X3_, fun _ => rfl, fun h0_ => absurd ((hoff 5 (by kernel_rfl)).symm.trans h0_) (by decide), fun h0_ => absurd ((hoff 6 (by kernel_rfl)).symm.trans h0_) (by decide), Q_X8_⟩
         refine steps_cons ?_ ?_
         ·rintro b a w' ⟨v193, v197, v201, gb204, m1_, m3_, m4_, m5_, m6_, m8_, ha, Q_BK187, Q_BK188, Q_HB, Q_HO194, Q_HO198, Q_HO202, Q_BK204, Q_GW204, Q_GE204, Q_NB187_204, Q_NB204_187, Q_NB188_204, Q_NB204_188, Q_BK204_e9, Q_X1_, Q_X3_, Q_X4_, Q_X5_, Q_X6_, Q_X8_⟩ hb_ hon hoff
          refine ⟨_, rfl, fun K hK => ?_⟩
          have e32 : a.tmps[32]? = some (m4_) := by rw [ha]; exact putSel_on (e := (4, 32, m4_)) 4 rfl rfl (hon 4 (by kernel_rfl)) rfl
          rw [Q_X4_ (hon 4 (by kernel_rfl))] at e32
          replace ha := qm_ ha
          have BK187 := qm_ Q_BK187
          have BK188 := qm_ Q_BK188
          have HB := qm_ Q_HB
          have HO194 := qm_ (Q_HO194 (hon 1 (by kernel_rfl)))
          have HO198 := qm_ (Q_HO198 (hon 3 (by kernel_rfl)))
          have HO202 := qm_ (Q_HO202 (hon 4 (by kernel_rfl)))
          refine value_ (w1 := w') (v := .tuple #[.agg #[.int .i64 t199, v201], .bool t203]) (by rfl) rfl ?_ ?_
          ·go_simp
           (try simp only [i64_w])
           try rfl
          refine hK.out _ _ ⟨v193, v197, v201, gb204, m1_, m3_, m4_, (.tuple #[.agg #[.int .i64 t199, v201], .bool t203]), m6_, m8_, (by rw [ha.out]; exact putSel_upk 5 hb_ rfl rfl rfl), Q_BK187, Q_BK188, Q_HB, Q_HO194, Q_HO198, Q_HO202, Q_BK204, Q_GW204, Q_GE204, Q_NB187_204, Q_NB204_187, Q_NB188_204, Q_NB204_188, fun h0_ => absurd ((hoff 9 (by kernel_rfl)).symm.trans h0_) (by decide), Q_X1_, Q_X3_, Q_X4_, fun _ => rfl, fun h0_ => absurd ((hoff 6 (by kernel_rfl)).symm.trans h0_) (by decide), Q_X8_⟩
         refine steps_cons ?_ ?_
         ·rintro b a w' ⟨v193, v197, v201, gb204, m1_, m3_, m4_, m5_, m6_, m8_, ha, Q_BK187, Q_BK188, Q_HB, Q_HO194, Q_HO198, Q_HO202, Q_BK204, Q_GW204, Q_GE204, Q_NB187_204, Q_NB204_187, Q_NB188_204, Q_NB204_188, Q_BK204_e9, Q_X1_, Q_X3_, Q_X4_, Q_X5_, Q_X6_, Q_X8_⟩ hb_ hon hoff
          refine ⟨_, rfl, fun K hK => ?_⟩
          have e27 : a.tmps[27]? = some (m5_) := by rw [ha]; exact putSel_on (e := (5, 27, m5_)) 5 rfl rfl (hon 5 (by kernel_rfl)) rfl
          rw [Q_X5_ (hon 5 (by kernel_rfl))] at e27
          replace ha := qm_ ha
          have BK187 := qm_ Q_BK187
          have BK188 := qm_ Q_BK188
          have HB := qm_ Q_HB
          have HO194 := qm_ (Q_HO194 (hon 1 (by kernel_rfl)))
          have HO198 := qm_ (Q_HO198 (hon 3 (by kernel_rfl)))
          have HO202 := qm_ (Q_HO202 (hon 4 (by kernel_rfl)))
          refine value_ (w1 := w') (v := .agg #[.int .i64 t199, v201]) (by rfl) rfl ?_ ?_
          ·go_simp
           (try simp only [i64_w])
           try rfl
          refine hK.out _ _ ⟨v193, v197, v201, gb204, m1_, m3_, m4_, m5_, (.agg #[.int .i64 t199, v201]), m8_, (by rw [ha.out]; exact putSel_upk 6 hb_ rfl rfl rfl), Q_BK187, Q_BK188, Q_HB, Q_HO194, Q_HO198, Q_HO202, Q_BK204, Q_GW204, Q_GE204, Q_NB187_204, Q_NB204_187, Q_NB188_204, Q_NB204_188, fun h0_ => absurd ((hoff 9 (by kernel_rfl)).symm.trans h0_) (by decide), Q_X1_, Q_X3_, Q_X4_, Q_X5_, fun _ => rfl, Q_X8_⟩
         refine steps_cons ?_ ?_
         ·rintro b a w' ⟨v193, v197, v201, gb204, m1_, m3_, m4_, m5_, m6_, m8_, ha, Q_BK187, Q_BK188, Q_HB, Q_HO194, Q_HO198, Q_HO202, Q_BK204, Q_GW204, Q_GE204, Q_NB187_204, Q_NB204_187, Q_NB188_204, Q_NB204_188, Q_BK204_e9, Q_X1_, Q_X3_, Q_X4_, Q_X5_, Q_X6_, Q_X8_⟩ hb_ hon hoff
          refine ⟨_, rfl, fun K hK => ?_⟩
          have e27 : a.tmps[27]? = some (m5_) := by rw [ha]; exact putSel_on (e := (5, 27, m5_)) 5 rfl rfl (hon 5 (by kernel_rfl)) rfl
          rw [Q_X5_ (hon 5 (by kernel_rfl))] at e27
          replace ha := qm_ ha
          have BK187 := qm_ Q_BK187
          have BK188 := qm_ Q_BK188
          have HB := qm_ Q_HB
          have HO194 := qm_ (Q_HO194 (hon 1 (by kernel_rfl)))
          have HO198 := qm_ (Q_HO198 (hon 3 (by kernel_rfl)))
          have HO202 := qm_ (Q_HO202 (hon 4 (by kernel_rfl)))
          refine value_ (w1 := w') (v := .bool t203) (by rfl) rfl ?_ ?_
          ·go_simp
           (try simp only [i64_w])
           try rfl
          refine hK.out _ _ ⟨v193, v197, v201, gb204, m1_, m3_, m4_, m5_, m6_, m8_, (by rw [ha.out]; exact putSel_upk 7 hb_ rfl rfl rfl), Q_BK187, Q_BK188, Q_HB, Q_HO194, Q_HO198, Q_HO202, Q_BK204, Q_GW204, Q_GE204, Q_NB187_204, Q_NB204_187, Q_NB188_204, Q_NB204_188, Q_BK204_e9, Q_X1_, Q_X3_, Q_X4_, Q_X5_, Q_X6_, Q_X8_⟩
         refine steps_cons ?_ ?_
         ·rintro b a w' ⟨v193, v197, v201, gb204, m1_, m3_, m4_, m5_, m6_, m8_, ha, Q_BK187, Q_BK188, Q_HB, Q_HO194, Q_HO198, Q_HO202, Q_BK204, Q_GW204, Q_GE204, Q_NB187_204, Q_NB204_187, Q_NB188_204, Q_NB204_188, Q_BK204_e9, Q_X1_, Q_X3_, Q_X4_, Q_X5_, Q_X6_, Q_X8_⟩ hb_ hon hoff
          refine ⟨_, rfl, fun K hK => ?_⟩
          replace ha := qm_ ha
          have BK187 := qm_ Q_BK187
          have BK188 := qm_ Q_BK188
          have HB := qm_ Q_HB
          refine box_step ?hg (N := 6) ?hd (cs := #[.int .i64 0, .slice none 0 0]) (t := 24) ?hr ?_; (case hd => rfl); (case hg => rfl); (case hr => first | (go_simp; done) | (go_simp; rfl))
          intro gb204 hg w48 hbox hb
          have n0_ := qm_ (qs_ (g := gb187) (o := .cells #[.int .i64 a0_0, .slice A0_1 l0_1.length c0_1] 34 (0, 0)) (by (with_reducible repeat (first | refine qu_ ?_ _ | refine qv_ ?_ | refine qw_ ?_ _)); exact BK187.out) hb)
          have n1_ := qm_ (qs_ (g := gb188) (o := .cells #[.int .i64 a1_0, .slice A1_1 l1_1.length c1_1] 34 (0, 0)) (by (with_reducible repeat (first | refine qu_ ?_ _ | refine qv_ ?_ | refine qw_ ?_ _)); exact BK188.out) hb)
          have n2_ := qm_ (qh_ (by repeat (first | (with_reducible first | exact HB.out | apply qc_ | apply qx_ | apply qf_ | refine qg_ ?_ GE187.out | refine qg_ ?_ GE188.out) | exact HB.out)) hb)
          have n3_ := qm_ (hbox)
          have n4_ := qm_ ((by rw [hg]; exact (qz_ (by repeat (first | (with_reducible first | exact HB.out | apply qc_ | apply qx_ | apply qf_ | refine qg_ ?_ GE187.out | refine qg_ ?_ GE188.out) | exact HB.out))) : w.heap.size ≤ gb204))
          have n5_ := qm_ ((by rw [hg]; exact (qz_ (by repeat (first | (with_reducible first | exact HB.out | apply qc_ | apply qx_ | apply qf_ | refine qg_ ?_ GE187.out | refine qg_ ?_ GE188.out) | exact HB.out))) : w.heap.size ≤ gb204))
          have n6_ := qm_ ((by rw [hg]; exact Nat.ne_of_lt (blk_lt (g := gb187) (o := .cells #[.int .i64 a0_0, .slice A0_1 l0_1.length c0_1] 34 (0, 0)) (by (with_reducible repeat (first | refine qu_ ?_ _ | refine qv_ ?_ | refine qw_ ?_ _)); exact BK187.out)) : gb187 ≠ gb204))
          have n7_ := qm_ ((by rw [hg]; exact Nat.ne_of_gt (blk_lt (g := gb187) (o := .cells #[.int .i64 a0_0, .slice A0_1 l0_1.length c0_1] 34 (0, 0)) (by (with_reducible repeat (first | refine qu_ ?_ _ | refine qv_ ?_ | refine qw_ ?_ _)); exact BK187.out)) : gb204 ≠ gb187))
          have n8_ := qm_ ((by rw [hg]; exact Nat.ne_of_lt (blk_lt (g := gb188) (o := .cells #[.int .i64 a1_0, .slice A1_1 l1_1.length c1_1] 34 (0, 0)) (by (with_reducible repeat (first | refine qu_ ?_ _ | refine qv_ ?_ | refine qw_ ?_ _)); exact BK188.out)) : gb188 ≠ gb204))
          have n9_ := qm_ ((by rw [hg]; exact Nat.ne_of_gt (blk_lt (g := gb188) (o := .cells #[.int .i64 a1_0, .slice A1_1 l1_1.length c1_1] 34 (0, 0)) (by (with_reducible repeat (first | refine qu_ ?_ _ | refine qv_ ?_ | refine qw_ ?_ _)); exact BK188.out)) : gb204 ≠ gb188))
          have z_HO194 := fun (h0_ : b 1 = true) => (show Kd.R (Kd.int .i64) 3 w48 w.heap.size (fun _ => True) v193 t192 from by first | exact (qb_ (by (with_reducible repeat (first | apply qa_ | apply qn_ | apply qd_)); exact (Q_HO194 h0_)) hb) | exact Kd.R_mono (qb_ (by (with_reducible repeat (first | apply qa_ | apply qn_ | apply qd_)); exact (Q_HO194 h0_)) hb) (fun _ h_ => by first | trivial | exact h_ | exact h_.1))
          have z_HO198 := fun (h0_ : b 3 = true) => (show Kd.R (Kd.int .i64) 3 w48 w.heap.size (fun _ => True) v197 t196 from by first | exact (qb_ (by (with_reducible repeat (first | apply qa_ | apply qn_ | apply qd_)); exact (Q_HO198 h0_)) hb) | exact Kd.R_mono (qb_ (by (with_reducible repeat (first | apply qa_ | apply qn_ | apply qd_)); exact (Q_HO198 h0_)) hb) (fun _ h_ => by first | trivial | exact h_ | exact h_.1))
          have z_HO202 := fun (h0_ : b 4 = true) => (show Kd.R (Kd.int .i64) 3 w48 w.heap.size (fun _ => True) v201 t200 from by first | exact (qb_ (by (with_reducible repeat (first | apply qa_ | apply qn_ | apply qd_)); exact (Q_HO202 h0_)) hb) | exact Kd.R_mono (qb_ (by (with_reducible repeat (first | apply qa_ | apply qn_ | apply qd_)); exact (Q_HO202 h0_)) hb) (fun _ h_ => by first | trivial | exact h_ | exact h_.1))
          clear BK187
          clear BK188
          clear HB
          have BK187 := n0_
          have BK188 := n1_
          have HB := n2_
          have BK204 := n3_
          have GW204 := n4_
          have GE204 := n5_
          have NB187_204 := n6_
          have NB204_187 := n7_
          have NB188_204 := n8_
          have NB204_188 := n9_
          clear n0_ n1_ n2_ n3_ n4_ n5_ n6_ n7_ n8_ n9_
          clear hb hbox hg
          refine hK.out _ _ ⟨v193, v197, v201, gb204, m1_, m3_, m4_, m5_, m6_, (.pointer (some ⟨gb204, 0, none⟩)), (by rw [ha.out]; exact putSel_upk 8 hb_ rfl rfl rfl), (by (with_reducible repeat (first | refine qu_ ?_ _ | refine qv_ ?_ | refine qw_ ?_ _)); exact BK187.out), (by (with_reducible repeat (first | refine qu_ ?_ _ | refine qv_ ?_ | refine qw_ ?_ _)); exact BK188.out), (by repeat (first | (with_reducible first | exact HB.out | apply qc_ | apply qx_ | apply qf_ | refine qg_ ?_ GE187.out | refine qg_ ?_ GE188.out | refine qg_ ?_ GE204.out) | exact HB.out)), z_HO194, z_HO198, z_HO202, fun _ _ => (by (with_reducible repeat (first | refine qu_ ?_ _ | refine qv_ ?_ | refine qw_ ?_ _)); exact BK204.out), fun _ => GW204.out, fun _ => GE204.out, fun _ => NB187_204.out, fun _ => NB204_187.out, fun _ => NB188_204.out, fun _ => NB204_188.out, fun h0_ => absurd ((hoff 9 (by kernel_rfl)).symm.trans h0_) (by decide), Q_X1_, Q_X3_, Q_X4_, Q_X5_, Q_X6_, fun _ => rfl⟩
         refine steps_cons ?_ ?_
         ·rintro b a w' ⟨v193, v197, v201, gb204, m1_, m3_, m4_, m5_, m6_, m8_, ha, Q_BK187, Q_BK188, Q_HB, Q_HO194, Q_HO198, Q_HO202, Q_BK204, Q_GW204, Q_GE204, Q_NB187_204, Q_NB204_187, Q_NB188_204, Q_NB204_188, Q_BK204_e9, Q_X1_, Q_X3_, Q_X4_, Q_X5_, Q_X6_, Q_X8_⟩ hb_ hon hoff
          refine ⟨_, rfl, fun K hK => ?_⟩
          have e6 : a.tmps[6]? = some (m8_) := by rw [ha]; exact putSel_on (e := (8, 6, m8_)) 8 rfl rfl (hon 8 (by kernel_rfl)) rfl
          rw [Q_X8_ (hon 8 (by kernel_rfl))] at e6
          have e33 : a.tmps[33]? = some (m6_) := by rw [ha]; exact putSel_on (e := (6, 33, m6_)) 6 rfl rfl (hon 6 (by kernel_rfl)) rfl
          rw [Q_X6_ (hon 6 (by kernel_rfl))] at e33
          replace ha := qm_ ha
          have BK187 := qm_ Q_BK187
          have BK188 := qm_ Q_BK188
          have HB := qm_ Q_HB
          have HO194 := qm_ (Q_HO194 (hon 1 (by kernel_rfl)))
          have HO198 := qm_ (Q_HO198 (hon 3 (by kernel_rfl)))
          have HO202 := qm_ (Q_HO202 (hon 4 (by kernel_rfl)))
          have BK204 := qm_ (Q_BK204 (hon 8 (by kernel_rfl)) hb_)
          have GW204 := qm_ (Q_GW204 (hon 8 (by kernel_rfl)))
          have GE204 := qm_ (Q_GE204 (hon 8 (by kernel_rfl)))
          have NB187_204 := qm_ (Q_NB187_204 (hon 8 (by kernel_rfl)))
          have NB204_187 := qm_ (Q_NB204_187 (hon 8 (by kernel_rfl)))
          have NB188_204 := qm_ (Q_NB188_204 (hon 8 (by kernel_rfl)))
          have NB204_188 := qm_ (Q_NB204_188 (hon 8 (by kernel_rfl)))
          obtain ⟨Ao56, co56, eo56⟩ := Kd.R_slice HO202.out
          (first | subst eo56 | (injection eo56 with f1_ f2_ f3_; have f4_ := f1_.symm; have f5_ := f3_.symm; clear f1_ f2_ f3_; subst f4_; subst f5_))
          have hs55 : w'.cell? ⟨gb204, 0, none⟩ = some (.int .i64 0) := (blk_cell BK204.out 0).trans rfl
          have hfs55 := blk_frozen BK204.out 0
          have hns55_0 := NB187_204.out
          have hns55_1 := NB188_204.out
          have hms55_0 := NB204_187.out
          have hms55_1 := NB204_188.out
          have hs57 : w'.cell? ⟨gb204, 1, none⟩ = some (.slice none 0 0) := (blk_cell BK204.out 1).trans rfl
          have hfs57 := blk_frozen BK204.out 1
          have hns57_0 := NB187_204.out
          have hns57_1 := NB188_204.out
          have hms57_0 := NB204_187.out
          have hms57_1 := NB204_188.out
          refine skip_ (w1 := ?_) (by rfl) rfl ?_ ?_
          rotate_left
          ·go_simp
           rfl
          refine hK.out _ _ ⟨v193, v197, .slice Ao56 t200.length co56, gb204, m1_, m3_, m4_, m5_, m6_, m8_, (by rw [ha.out]; exact putSel_none (v := undef) rfl), (by (with_reducible repeat (first | refine qu_ ?_ _ | refine qv_ ?_ | refine qw_ ?_ _)); refine blk_far ?_ NB187_204.out _; (with_reducible repeat (first | refine qu_ ?_ _ | refine qv_ ?_ | refine qw_ ?_ _)); refine blk_far ?_ NB187_204.out _; (with_reducible repeat (first | refine qu_ ?_ _ | refine qv_ ?_ | refine qw_ ?_ _)); exact BK187.out), (by (with_reducible repeat (first | refine qu_ ?_ _ | refine qv_ ?_ | refine qw_ ?_ _)); refine blk_far ?_ NB188_204.out _; (with_reducible repeat (first | refine qu_ ?_ _ | refine qv_ ?_ | refine qw_ ?_ _)); refine blk_far ?_ NB188_204.out _; (with_reducible repeat (first | refine qu_ ?_ _ | refine qv_ ?_ | refine qw_ ?_ _)); exact BK188.out), (by repeat (first | (with_reducible first | exact HB.out | apply qc_ | apply qx_ | apply qf_ | refine qg_ ?_ GE187.out | refine qg_ ?_ GE188.out | refine qg_ ?_ GE204.out) | exact HB.out)), fun _ => (by (with_reducible repeat (first | apply qa_ | apply qn_ | apply qd_)); exact Kd.R_mono (Kd.R_far (p := ⟨gb204, 1, none⟩) (Kd.R_far (p := ⟨gb204, 0, none⟩) (Kd.R_types HO194.out BK204.out (by decide)) (fun _ hk => hk.2) (.int .i64 t199)) (fun _ hk => hk.2) (.slice Ao56 t200.length co56)) (fun _ _ => trivial)), fun _ => (by (with_reducible repeat (first | apply qa_ | apply qn_ | apply qd_)); exact Kd.R_mono (Kd.R_far (p := ⟨gb204, 1, none⟩) (Kd.R_far (p := ⟨gb204, 0, none⟩) (Kd.R_types HO198.out BK204.out (by decide)) (fun _ hk => hk.2) (.int .i64 t199)) (fun _ hk => hk.2) (.slice Ao56 t200.length co56)) (fun _ _ => trivial)), fun _ => (by (with_reducible repeat (first | apply qa_ | apply qn_ | apply qd_)); exact Kd.R_mono (Kd.R_far (p := ⟨gb204, 1, none⟩) (Kd.R_far (p := ⟨gb204, 0, none⟩) (Kd.R_types HO202.out BK204.out (by decide)) (fun _ hk => hk.2) (.int .i64 t199)) (fun _ hk => hk.2) (.slice Ao56 t200.length co56)) (fun _ _ => trivial)), fun _ h1_ => absurd ((up_self b 9).symm.trans h1_) (by decide), fun _ => GW204.out, fun _ => GE204.out, fun _ => NB187_204.out, fun _ => NB204_187.out, fun _ => NB188_204.out, fun _ => NB204_188.out, fun _ => (by (with_reducible repeat (first | refine qu_ ?_ _ | refine qv_ ?_ | refine qw_ ?_ _)); refine blk_put (cs := #[.int .i64 t199, .slice none 0 0]) ?_ 1 _ rfl; (with_reducible repeat (first | refine qu_ ?_ _ | refine qv_ ?_ | refine qw_ ?_ _)); refine blk_put (cs := #[.int .i64 0, .slice none 0 0]) ?_ 0 _ rfl; (with_reducible repeat (first | refine qu_ ?_ _ | refine qv_ ?_ | refine qw_ ?_ _)); exact BK204.out), Q_X1_, Q_X3_, Q_X4_, Q_X5_, Q_X6_, Q_X8_⟩
         refine steps_cons ?_ ?_
         ·rintro b a w' ⟨v193, v197, v201, gb204, m1_, m3_, m4_, m5_, m6_, m8_, ha, Q_BK187, Q_BK188, Q_HB, Q_HO194, Q_HO198, Q_HO202, Q_BK204, Q_GW204, Q_GE204, Q_NB187_204, Q_NB204_187, Q_NB188_204, Q_NB204_188, Q_BK204_e9, Q_X1_, Q_X3_, Q_X4_, Q_X5_, Q_X6_, Q_X8_⟩ hb_ hon hoff
          refine ⟨_, rfl, fun K hK => ?_⟩
          have e34 : a.tmps[34]? = some (.bool t203) := by rw [ha]; exact putSel_on (e := (7, 34, .bool t203)) 7 rfl rfl (hon 7 (by kernel_rfl)) rfl
          replace ha := qm_ ha
          have BK187 := qm_ Q_BK187
          have BK188 := qm_ Q_BK188
          have HB := qm_ Q_HB
          have HO194 := qm_ (Q_HO194 (hon 1 (by kernel_rfl)))
          have HO198 := qm_ (Q_HO198 (hon 3 (by kernel_rfl)))
          have HO202 := qm_ (Q_HO202 (hon 4 (by kernel_rfl)))
          have GW204 := qm_ (Q_GW204 (hon 8 (by kernel_rfl)))
          have GE204 := qm_ (Q_GE204 (hon 8 (by kernel_rfl)))
          have NB187_204 := qm_ (Q_NB187_204 (hon 8 (by kernel_rfl)))
          have NB204_187 := qm_ (Q_NB204_187 (hon 8 (by kernel_rfl)))
          have NB188_204 := qm_ (Q_NB188_204 (hon 8 (by kernel_rfl)))
          have NB204_188 := qm_ (Q_NB204_188 (hon 8 (by kernel_rfl)))
          have BK204 := qm_ (Q_BK204_e9 (hon 9 (by kernel_rfl)))
          refine value_ (w1 := w') (v := .bool t203) (by rfl) rfl ?_ ?_
          ·go_simp
           (try simp only [i64_w])
           try rfl
          refine hK.out _ _ ⟨v193, v197, v201, gb204, m1_, m3_, m4_, m5_, m6_, m8_, (by rw [ha.out]; exact putSel_upk 9 hb_ rfl rfl rfl), Q_BK187, Q_BK188, Q_HB, Q_HO194, Q_HO198, Q_HO202, fun _ h1_ => absurd ((hon 9 (by kernel_rfl)).symm.trans h1_) (by decide), Q_GW204, Q_GE204, Q_NB187_204, Q_NB204_187, Q_NB188_204, Q_NB204_188, Q_BK204_e9, Q_X1_, Q_X3_, Q_X4_, Q_X5_, Q_X6_, Q_X8_⟩
         exact steps_nil
        rintro b a w57 hall ⟨v193, v197, v201, gb204, m1_, m3_, m4_, m5_, m6_, m8_, ha, Q_BK187, Q_BK188, Q_HB, Q_HO194, Q_HO198, Q_HO202, Q_BK204, Q_GW204, Q_GE204, Q_NB187_204, Q_NB204_187, Q_NB188_204, Q_NB204_188, Q_BK204_e9, Q_X1_, Q_X3_, Q_X4_, Q_X5_, Q_X6_, Q_X8_⟩
        clear BK187 BK188 HB
        have hb0_ := hall 0 (by kernel_rfl)
        have hb1_ := hall 1 (by kernel_rfl)
        have hb2_ := hall 2 (by kernel_rfl)
        have hb3_ := hall 3 (by kernel_rfl)
        have hb4_ := hall 4 (by kernel_rfl)
        have hb5_ := hall 5 (by kernel_rfl)
        have hb6_ := hall 6 (by kernel_rfl)
        have hb7_ := hall 7 (by kernel_rfl)
        have hb8_ := hall 8 (by kernel_rfl)
        have hb9_ := hall 9 (by kernel_rfl)
        have hb10_ := hall 10 (by kernel_rfl)
        subst ha
        obtain rfl := Q_X1_ hb1_
        obtain rfl := Q_X3_ hb3_
        obtain rfl := Q_X4_ hb4_
        obtain rfl := Q_X5_ hb5_
        obtain rfl := Q_X6_ hb6_
        obtain rfl := Q_X8_ hb8_
        simp only [putSel, hb0_, hb1_, hb2_, hb3_, hb4_, hb5_, hb6_, hb7_, hb8_, hb9_, hb10_, if_true, Act.put, List.setIfInBounds_toArray, List.set_cons_zero, List.set_cons_succ]
        have BK187 := qm_ Q_BK187
        clear Q_BK187
        have BK188 := qm_ Q_BK188
        clear Q_BK188
        have HB := qm_ Q_HB
        clear Q_HB
        have HO194 := qm_ (Q_HO194 hb1_)
        clear Q_HO194
        have HO198 := qm_ (Q_HO198 hb3_)
        clear Q_HO198
        have HO202 := qm_ (Q_HO202 hb4_)
        clear Q_HO202
        clear Q_BK204
        have GW204 := qm_ (Q_GW204 hb8_)
        clear Q_GW204
        have GE204 := qm_ (Q_GE204 hb8_)
        clear Q_GE204
        have NB187_204 := qm_ (Q_NB187_204 hb8_)
        clear Q_NB187_204
        have NB204_187 := qm_ (Q_NB204_187 hb8_)
        clear Q_NB204_187
        have NB188_204 := qm_ (Q_NB188_204 hb8_)
        clear Q_NB188_204
        have NB204_188 := qm_ (Q_NB204_188 hb8_)
        clear Q_NB204_188
        have BK204 := qm_ (Q_BK204_e9 hb9_)
        clear Q_BK204_e9
        clear hall hb0_ hb1_ hb2_ hb3_ hb4_ hb5_ hb6_ hb7_ hb8_ hb9_ hb10_
        have hnb58 := NB187_204.out
        have hnc58 := NB204_187.out
        have hcz59_0 : w57.cell? ⟨gb187, 0, none⟩ = some (.int .i64 a0_0) := (blk_cell BK187.out 0).trans rfl
        have hcz59_1 : w57.cell? ⟨gb187, 1, none⟩ = some (.slice A0_1 l0_1.length c0_1) := (blk_cell BK187.out 1).trans rfl
        have hfz59_0 := blk_frozen BK187.out 0
        have hfz59_1 := blk_frozen BK187.out 1
        try go_wp2_with (first | ((with_reducible refine gate_callee (f := 24) rfl ?_); refine goesL_ (some 36) rfl rfl Try.func24 (by kernel_rfl) rfl #[.agg #[.int .i64 a0_0, .slice A0_1 l0_1.length c0_1]] rfl (by (try simp only [List.map_toArray, List.map_cons, List.map_nil]); first | done | rfl | (simp only [List.length_drop, List.length_take]; rfl)) ?_; (with_reducible refine (laws_toBits.calls k a0_0 _ _ l0_1 t205 t206 _ ?side1 ?side2 A10.out).mono ?_); (case side1 => repeat (first | exact (Kd.C_below HR0_1.out HB.out) | (with_reducible refine Kd.C_alloc ?_ _) | (with_reducible refine Kd.C_drewN ?_ _) | (with_reducible refine Kd.C_drew ?_))); (case side2 => exact HC0_1.out); rintro e w60 ⟨v207, rfl, ho0, hb⟩; refine ⟨_, rfl, ?_⟩; have n0_ := qm_ (Kd.R_elder' (by (with_reducible repeat (first | apply qa_ | apply qn_ | apply qd_)); exact HO194.out) (Kd.R_base ho0) hb); have n1_ := qm_ (Kd.R_elder' (by (with_reducible repeat (first | apply qa_ | apply qn_ | apply qd_)); exact HO198.out) (Kd.R_base ho0) hb); have n2_ := qm_ (Kd.R_elder' (by (with_reducible repeat (first | apply qa_ | apply qn_ | apply qd_)); exact HO202.out) (Kd.R_base ho0) hb); have n3_ := qm_ (ql_ (qe_ (qe_ (qe_ ho0 (qt_ (by (with_reducible repeat (first | apply qa_ | apply qn_ | apply qd_)); exact HO194.out))) (qt_ (by (with_reducible repeat (first | apply qa_ | apply qn_ | apply qd_)); exact HO198.out))) (qt_ (by (with_reducible repeat (first | apply qa_ | apply qn_ | apply qd_)); exact HO202.out))) (qz_ (by repeat (first | (with_reducible first | exact HB.out | apply qc_ | apply qx_ | apply qf_ | refine qg_ ?_ GE187.out | refine qg_ ?_ GE188.out | refine qg_ ?_ GE204.out) | exact HB.out)))); have n4_ := qm_ (qs_ (g := gb187) (o := .cells #[.int .i64 a0_0, .slice A0_1 l0_1.length c0_1] 34 (0, 0)) (by (with_reducible repeat (first | refine qu_ ?_ _ | refine qv_ ?_ | refine qw_ ?_ _)); exact BK187.out) hb); have n5_ := qm_ (qs_ (g := gb188) (o := .cells #[.int .i64 a1_0, .slice A1_1 l1_1.length c1_1] 34 (0, 0)) (by (with_reducible repeat (first | refine qu_ ?_ _ | refine qv_ ?_ | refine qw_ ?_ _)); exact BK188.out) hb); have n6_ := qm_ (qs_ (g := gb204) (o := .cells #[.int .i64 t199, v201] 24 (0, 0)) (by (with_reducible repeat (first | refine qu_ ?_ _ | refine qv_ ?_ | refine qw_ ?_ _)); exact BK204.out) hb); have n7_ := qm_ (qh_ (by repeat (first | (with_reducible first | exact HB.out | apply qc_ | apply qx_ | apply qf_ | refine qg_ ?_ GE187.out | refine qg_ ?_ GE188.out | refine qg_ ?_ GE204.out) | exact HB.out)) hb); clear HO194; clear HO198; clear HO202; clear BK187; clear BK188; clear BK204; clear HB; have HO194 := n0_; have HO198 := n1_; have HO202 := n2_; have HO208 := n3_; have BK187 := n4_; have BK188 := n5_; have BK204 := n6_; have HB := n7_; clear n0_ n1_ n2_ n3_ n4_ n5_ n6_ n7_; (try clear hb); (try clear hb2); (try clear hk); (try clear hi); (try clear ho0)) | ((with_reducible refine gate_dst (N := 8) rfl ?_); refine box_event ?hg (N := 8) ?hd (cs := #[.int .i64 0, .slice none 0 0]) (t := 24) ?hr ?_; (case hd => rfl); (case hg => rfl); (case hr => first | (go_simp; done) | (go_simp; rfl)); intro gb209 hg w61 hbox hb; have n0_ := qm_ (qb_ (by (with_reducible repeat (first | apply qa_ | apply qn_ | apply qd_)); exact HO194.out) hb); have n1_ := qm_ (qb_ (by (with_reducible repeat (first | apply qa_ | apply qn_ | apply qd_)); exact HO198.out) hb); have n2_ := qm_ (qb_ (by (with_reducible repeat (first | apply qa_ | apply qn_ | apply qd_)); exact HO202.out) hb); have n3_ := qm_ (qb_ (by (with_reducible repeat (first | apply qa_ | apply qn_ | apply qd_)); exact HO208.out) hb); have n4_ := qm_ (qs_ (g := gb187) (o := .cells #[.int .i64 a0_0, .slice A0_1 l0_1.length c0_1] 34 (0, 0)) (by (with_reducible repeat (first | refine qu_ ?_ _ | refine qv_ ?_ | refine qw_ ?_ _)); exact BK187.out) hb); have n5_ := qm_ (qs_ (g := gb188) (o := .cells #[.int .i64 a1_0, .slice A1_1 l1_1.length c1_1] 34 (0, 0)) (by (with_reducible repeat (first | refine qu_ ?_ _ | refine qv_ ?_ | refine qw_ ?_ _)); exact BK188.out) hb); have n6_ := qm_ (qs_ (g := gb204) (o := .cells #[.int .i64 t199, v201] 24 (0, 0)) (by (with_reducible repeat (first | refine qu_ ?_ _ | refine qv_ ?_ | refine qw_ ?_ _)); exact BK204.out) hb); have n7_ := qm_ (qh_ (by repeat (first | (with_reducible first | exact HB.out | apply qc_ | apply qx_ | apply qf_ | refine qg_ ?_ GE187.out | refine qg_ ?_ GE188.out | refine qg_ ?_ GE204.out) | exact HB.out)) hb); have n8_ := qm_ (hbox); have n9_ := qm_ ((by rw [hg]; exact (qz_ (by repeat (first | (with_reducible first | exact HB.out | apply qc_ | apply qx_ | apply qf_ | refine qg_ ?_ GE187.out | refine qg_ ?_ GE188.out | refine qg_ ?_ GE204.out) | exact HB.out))) : w.heap.size ≤ gb209)); have n10_ := qm_ ((by rw [hg]; exact (qz_ (by repeat (first | (with_reducible first | exact HB.out | apply qc_ | apply qx_ | apply qf_ | refine qg_ ?_ GE187.out | refine qg_ ?_ GE188.out | refine qg_ ?_ GE204.out) | exact HB.out))) : w.heap.size ≤ gb209)); have n11_ := qm_ ((by rw [hg]; exact Nat.ne_of_lt (blk_lt (g := gb187) (o := .cells #[.int .i64 a0_0, .slice A0_1 l0_1.length c0_1] 34 (0, 0)) (by (with_reducible repeat (first | refine qu_ ?_ _ | refine qv_ ?_ | refine qw_ ?_ _)); exact BK187.out)) : gb187 ≠ gb209)); have n12_ := qm_ ((by rw [hg]; exact Nat.ne_of_gt (blk_lt (g := gb187) (o := .cells #[.int .i64 a0_0, .slice A0_1 l0_1.length c0_1] 34 (0, 0)) (by (with_reducible repeat (first | refine qu_ ?_ _ | refine qv_ ?_ | refine qw_ ?_ _)); exact BK187.out)) : gb209 ≠ gb187)); have n13_ := qm_ ((by rw [hg]; exact Nat.ne_of_lt (blk_lt (g := gb188) (o := .cells #[.int .i64 a1_0, .slice A1_1 l1_1.length c1_1] 34 (0, 0)) (by (with_reducible repeat (first | refine qu_ ?_ _ | refine qv_ ?_ | refine qw_ ?_ _)); exact BK188.out)) : gb188 ≠ gb209)); have n14_ := qm_ ((by rw [hg]; exact Nat.ne_of_gt (blk_lt (g := gb188) (o := .cells #[.int .i64 a1_0, .slice A1_1 l1_1.length c1_1] 34 (0, 0)) (by (with_reducible repeat (first | refine qu_ ?_ _ | refine qv_ ?_ | refine qw_ ?_ _)); exact BK188.out)) : gb209 ≠ gb188)); have n15_ := qm_ ((by rw [hg]; exact Nat.ne_of_lt (blk_lt (g := gb204) (o := .cells #[.int .i64 t199, v201] 24 (0, 0)) (by (with_reducible repeat (first | refine qu_ ?_ _ | refine qv_ ?_ | refine qw_ ?_ _)); exact BK204.out)) : gb204 ≠ gb209)); have n16_ := qm_ ((by rw [hg]; exact Nat.ne_of_gt (blk_lt (g := gb204) (o := .cells #[.int .i64 t199, v201] 24 (0, 0)) (by (with_reducible repeat (first | refine qu_ ?_ _ | refine qv_ ?_ | refine qw_ ?_ _)); exact BK204.out)) : gb209 ≠ gb204)); clear HO194; clear HO198; clear HO202; clear HO208; clear BK187; clear BK188; clear BK204; clear HB; have HO194 := n0_; have HO198 := n1_; have HO202 := n2_; have HO208 := n3_; have BK187 := n4_; have BK188 := n5_; have BK204 := n6_; have HB := n7_; have BK209 := n8_; have GW209 := n9_; have GE209 := n10_; have NB187_209 := n11_; have NB209_187 := n12_; have NB188_209 := n13_; have NB209_188 := n14_; have NB204_209 := n15_; have NB209_204 := n16_; clear n0_ n1_ n2_ n3_ n4_ n5_ n6_ n7_ n8_ n9_ n10_ n11_ n12_ n13_ n14_ n15_ n16_; clear hb hbox hg; have hnb62 := NB209_187.out; have hnc62 := NB187_209.out; have hnb63 := NB209_188.out; have hnc63 := NB188_209.out; have hnb64 := NB209_204.out; have hnc64 := NB204_209.out; have hcz65_0 : w61.cell? ⟨gb209, 0, none⟩ = some (.int .i64 0) := (blk_cell BK209.out 0).trans rfl; have hcz65_1 : w61.cell? ⟨gb209, 1, none⟩ = some (.slice none 0 0) := (blk_cell BK209.out 1).trans rfl; have hfz65_0 := blk_frozen BK209.out 0; have hfz65_1 := blk_frozen BK209.out 1; obtain ⟨Ao66, co66, eo66⟩ := Kd.R_slice HO208.out; subst eo66; have hnb67 := NB188_204.out; have hnc67 := NB204_188.out; have hcz68_0 : w61.cell? ⟨gb188, 0, none⟩ = some (.int .i64 a1_0) := (blk_cell BK188.out 0).trans rfl; have hcz68_1 : w61.cell? ⟨gb188, 1, none⟩ = some (.slice A1_1 l1_1.length c1_1) := (blk_cell BK188.out 1).trans rfl; have hfz68_0 := blk_frozen BK188.out 0; have hfz68_1 := blk_frozen BK188.out 1) | ((with_reducible refine gate_callee (f := 24) rfl ?_); refine goesL_ (some 38) rfl rfl Try.func24 (by kernel_rfl) rfl #[.agg #[.int .i64 a1_0, .slice A1_1 l1_1.length c1_1]] rfl (by (try simp only [List.map_toArray, List.map_cons, List.map_nil]); first | done | rfl | (simp only [List.length_drop, List.length_take]; rfl)) ?_; (with_reducible refine (laws_toBits.calls k a1_0 _ _ l1_1 t210 t211 _ ?side1 ?side2 A11.out).mono ?_); (case side1 => exact Kd.C_below HR1_1.out (by repeat (first | (with_reducible first | exact HB.out | apply qc_ | apply qx_ | apply qf_ | refine qg_ ?_ GE187.out | refine qg_ ?_ GE188.out | refine qg_ ?_ GE204.out | refine qg_ ?_ GE209.out) | exact HB.out))); (case side2 => exact HC1_1.out); rintro e w69 ⟨v212, rfl, ho0, hb⟩; refine ⟨_, rfl, ?_⟩; have n0_ := qm_ (Kd.R_elder' (by (with_reducible repeat (first | apply qa_ | apply qn_ | apply qd_)); exact (Kd.R_mono (Kd.R_far (p := ⟨gb209, 1, none⟩) (Kd.R_far (p := ⟨gb209, 0, none⟩) (Kd.R_types HO194.out BK209.out (by decide)) (fun _ hk => hk.2) (.int .i64 t205)) (fun _ hk => hk.2) (.slice Ao66 t206.length co66)) (fun _ h_ => h_.1))) (Kd.R_base ho0) hb); have n1_ := qm_ (Kd.R_elder' (by (with_reducible repeat (first | apply qa_ | apply qn_ | apply qd_)); exact (Kd.R_mono (Kd.R_far (p := ⟨gb209, 1, none⟩) (Kd.R_far (p := ⟨gb209, 0, none⟩) (Kd.R_types HO198.out BK209.out (by decide)) (fun _ hk => hk.2) (.int .i64 t205)) (fun _ hk => hk.2) (.slice Ao66 t206.length co66)) (fun _ h_ => h_.1))) (Kd.R_base ho0) hb); have n2_ := qm_ (Kd.R_elder' (by (with_reducible repeat (first | apply qa_ | apply qn_ | apply qd_)); exact (Kd.R_mono (Kd.R_far (p := ⟨gb209, 1, none⟩) (Kd.R_far (p := ⟨gb209, 0, none⟩) (Kd.R_types HO202.out BK209.out (by decide)) (fun _ hk => hk.2) (.int .i64 t205)) (fun _ hk => hk.2) (.slice Ao66 t206.length co66)) (fun _ h_ => h_.1))) (Kd.R_base ho0) hb); have n3_ := qm_ (Kd.R_elder' (by (with_reducible repeat (first | apply qa_ | apply qn_ | apply qd_)); exact (Kd.R_mono (Kd.R_far (p := ⟨gb209, 1, none⟩) (Kd.R_far (p := ⟨gb209, 0, none⟩) (Kd.R_types HO208.out BK209.out (by decide)) (fun _ hk => hk.2) (.int .i64 t205)) (fun _ hk => hk.2) (.slice Ao66 t206.length co66)) (fun _ h_ => h_.1))) (Kd.R_base ho0) hb); have n4_ := qm_ (ql_ (qe_ (qe_ (qe_ (qe_ ho0 (qt_ (by (with_reducible repeat (first | apply qa_ | apply qn_ | apply qd_)); exact (Kd.R_mono (Kd.R_far (p := ⟨gb209, 1, none⟩) (Kd.R_far (p := ⟨gb209, 0, none⟩) (Kd.R_types HO194.out BK209.out (by decide)) (fun _ hk => hk.2) (.int .i64 t205)) (fun _ hk => hk.2) (.slice Ao66 t206.length co66)) (fun _ h_ => h_.1))))) (qt_ (by (with_reducible repeat (first | apply qa_ | apply qn_ | apply qd_)); exact (Kd.R_mono (Kd.R_far (p := ⟨gb209, 1, none⟩) (Kd.R_far (p := ⟨gb209, 0, none⟩) (Kd.R_types HO198.out BK209.out (by decide)) (fun _ hk => hk.2) (.int .i64 t205)) (fun _ hk => hk.2) (.slice Ao66 t206.length co66)) (fun _ h_ => h_.1))))) (qt_ (by (with_reducible repeat (first | apply qa_ | apply qn_ | apply qd_)); exact (Kd.R_mono (Kd.R_far (p := ⟨gb209, 1, none⟩) (Kd.R_far (p := ⟨gb209, 0, none⟩) (Kd.R_types HO202.out BK209.out (by decide)) (fun _ hk => hk.2) (.int .i64 t205)) (fun _ hk => hk.2) (.slice Ao66 t206.length co66)) (fun _ h_ => h_.1))))) (qt_ (by (with_reducible repeat (first | apply qa_ | apply qn_ | apply qd_)); exact (Kd.R_mono (Kd.R_far (p := ⟨gb209, 1, none⟩) (Kd.R_far (p := ⟨gb209, 0, none⟩) (Kd.R_types HO208.out BK209.out (by decide)) (fun _ hk => hk.2) (.int .i64 t205)) (fun _ hk => hk.2) (.slice Ao66 t206.length co66)) (fun _ h_ => h_.1))))) (qz_ (by repeat (first | (with_reducible first | exact HB.out | apply qc_ | apply qx_ | apply qf_ | refine qg_ ?_ GE187.out | refine qg_ ?_ GE188.out | refine qg_ ?_ GE204.out | refine qg_ ?_ GE209.out) | exact HB.out)))); have n5_ := qm_ (qs_ (g := gb187) (o := .cells #[.int .i64 a0_0, .slice A0_1 l0_1.length c0_1] 34 (0, 0)) (by (with_reducible repeat (first | refine qu_ ?_ _ | refine qv_ ?_ | refine qw_ ?_ _)); refine blk_far ?_ NB187_209.out _; (with_reducible repeat (first | refine qu_ ?_ _ | refine qv_ ?_ | refine qw_ ?_ _)); refine blk_far ?_ NB187_209.out _; (with_reducible repeat (first | refine qu_ ?_ _ | refine qv_ ?_ | refine qw_ ?_ _)); exact BK187.out) hb); have n6_ := qm_ (qs_ (g := gb188) (o := .cells #[.int .i64 a1_0, .slice A1_1 l1_1.length c1_1] 34 (0, 0)) (by (with_reducible repeat (first | refine qu_ ?_ _ | refine qv_ ?_ | refine qw_ ?_ _)); refine blk_far ?_ NB188_209.out _; (with_reducible repeat (first | refine qu_ ?_ _ | refine qv_ ?_ | refine qw_ ?_ _)); refine blk_far ?_ NB188_209.out _; (with_reducible repeat (first | refine qu_ ?_ _ | refine qv_ ?_ | refine qw_ ?_ _)); exact BK188.out) hb); have n7_ := qm_ (qs_ (g := gb204) (o := .cells #[.int .i64 t199, v201] 24 (0, 0)) (by (with_reducible repeat (first | refine qu_ ?_ _ | refine qv_ ?_ | refine qw_ ?_ _)); refine blk_far ?_ NB204_209.out _; (with_reducible repeat (first | refine qu_ ?_ _ | refine qv_ ?_ | refine qw_ ?_ _)); refine blk_far ?_ NB204_209.out _; (with_reducible repeat (first | refine qu_ ?_ _ | refine qv_ ?_ | refine qw_ ?_ _)); exact BK204.out) hb); have n8_ := qm_ (qs_ (g := gb209) (o := .cells #[.int .i64 t205, .slice Ao66 t206.length co66] 24 (0, 0)) (by (with_reducible repeat (first | refine qu_ ?_ _ | refine qv_ ?_ | refine qw_ ?_ _)); refine blk_put (cs := #[.int .i64 t205, .slice none 0 0]) ?_ 1 _ rfl; (with_reducible repeat (first | refine qu_ ?_ _ | refine qv_ ?_ | refine qw_ ?_ _)); refine blk_put (cs := #[.int .i64 0, .slice none 0 0]) ?_ 0 _ rfl; (with_reducible repeat (first | refine qu_ ?_ _ | refine qv_ ?_ | refine qw_ ?_ _)); exact BK209.out) hb); have n9_ := qm_ (qh_ (by repeat (first | (with_reducible first | exact HB.out | apply qc_ | apply qx_ | apply qf_ | refine qg_ ?_ GE187.out | refine qg_ ?_ GE188.out | refine qg_ ?_ GE204.out | refine qg_ ?_ GE209.out) | exact HB.out)) hb); clear HO194; clear HO198; clear HO202; clear HO208; clear BK187; clear BK188; clear BK204; clear BK209; clear HB; have HO194 := n0_; have HO198 := n1_; have HO202 := n2_; have HO208 := n3_; have HO213 := n4_; have BK187 := n5_; have BK188 := n6_; have BK204 := n7_; have BK209 := n8_; have HB := n9_; clear n0_ n1_ n2_ n3_ n4_ n5_ n6_ n7_ n8_ n9_; (try clear hb); (try clear hb2); (try clear hk); (try clear hi); (try clear ho0)) | ((with_reducible refine gate_dst (N := 9) rfl ?_); refine box_event ?hg (N := 9) ?hd (cs := #[.int .i64 0, .slice none 0 0]) (t := 24) ?hr ?_; (case hd => rfl); (case hg => rfl); (case hr => first | (go_simp; done) | (go_simp; rfl)); intro gb214 hg w70 hbox hb; have n0_ := qm_ (qb_ (by (with_reducible repeat (first | apply qa_ | apply qn_ | apply qd_)); exact HO194.out) hb); have n1_ := qm_ (qb_ (by (with_reducible repeat (first | apply qa_ | apply qn_ | apply qd_)); exact HO198.out) hb); have n2_ := qm_ (qb_ (by (with_reducible repeat (first | apply qa_ | apply qn_ | apply qd_)); exact HO202.out) hb); have n3_ := qm_ (qb_ (by (with_reducible repeat (first | apply qa_ | apply qn_ | apply qd_)); exact HO208.out) hb); have n4_ := qm_ (qb_ (by (with_reducible repeat (first | apply qa_ | apply qn_ | apply qd_)); exact HO213.out) hb); have n5_ := qm_ (qs_ (g := gb187) (o := .cells #[.int .i64 a0_0, .slice A0_1 l0_1.length c0_1] 34 (0, 0)) (by (with_reducible repeat (first | refine qu_ ?_ _ | refine qv_ ?_ | refine qw_ ?_ _)); exact BK187.out) hb); have n6_ := qm_ (qs_ (g := gb188) (o := .cells #[.int .i64 a1_0, .slice A1_1 l1_1.length c1_1] 34 (0, 0)) (by (with_reducible repeat (first | refine qu_ ?_ _ | refine qv_ ?_ | refine qw_ ?_ _)); exact BK188.out) hb); have n7_ := qm_ (qs_ (g := gb204) (o := .cells #[.int .i64 t199, v201] 24 (0, 0)) (by (with_reducible repeat (first | refine qu_ ?_ _ | refine qv_ ?_ | refine qw_ ?_ _)); exact BK204.out) hb); have n8_ := qm_ (qs_ (g := gb209) (o := .cells #[.int .i64 t205, .slice Ao66 t206.length co66] 24 (0, 0)) (by (with_reducible repeat (first | refine qu_ ?_ _ | refine qv_ ?_ | refine qw_ ?_ _)); exact BK209.out) hb); have n9_ := qm_ (qh_ (by repeat (first | (with_reducible first | exact HB.out | apply qc_ | apply qx_ | apply qf_ | refine qg_ ?_ GE187.out | refine qg_ ?_ GE188.out | refine qg_ ?_ GE204.out | refine qg_ ?_ GE209.out) | exact HB.out)) hb); have n10_ := qm_ (hbox); have n11_ := qm_ ((by rw [hg]; exact (qz_ (by repeat (first | (with_reducible first | exact HB.out | apply qc_ | apply qx_ | apply qf_ | refine qg_ ?_ GE187.out | refine qg_ ?_ GE188.out | refine qg_ ?_ GE204.out | refine qg_ ?_ GE209.out) | exact HB.out))) : w.heap.size ≤ gb214)); have n12_ := qm_ ((by rw [hg]; exact (qz_ (by repeat (first | (with_reducible first | exact HB.out | apply qc_ | apply qx_ | apply qf_ | refine qg_ ?_ GE187.out | refine qg_ ?_ GE188.out | refine qg_ ?_ GE204.out | refine qg_ ?_ GE209.out) | exact HB.out))) : w.heap.size ≤ gb214)); have n13_ := qm_ ((by rw [hg]; exact Nat.ne_of_lt (blk_lt (g := gb187) (o := .cells #[.int .i64 a0_0, .slice A0_1 l0_1.length c0_1] 34 (0, 0)) (by (with_reducible repeat (first | refine qu_ ?_ _ | refine qv_ ?_ | refine qw_ ?_ _)); exact BK187.out)) : gb187 ≠ gb214)); have n14_ := qm_ ((by rw [hg]; exact Nat.ne_of_gt (blk_lt (g := gb187) (o := .cells #[.int .i64 a0_0, .slice A0_1 l0_1.length c0_1] 34 (0, 0)) (by (with_reducible repeat (first | refine qu_ ?_ _ | refine qv_ ?_ | refine qw_ ?_ _)); exact BK187.out)) : gb214 ≠ gb187)); have n15_ := qm_ ((by rw [hg]; exact Nat.ne_of_lt (blk_lt (g := gb188) (o := .cells #[.int .i64 a1_0, .slice A1_1 l1_1.length c1_1] 34 (0, 0)) (by (with_reducible repeat (first | refine qu_ ?_ _ | refine qv_ ?_ | refine qw_ ?_ _)); exact BK188.out)) : gb188 ≠ gb214)); have n16_ := qm_ ((by rw [hg]; exact Nat.ne_of_gt (blk_lt (g := gb188) (o := .cells #[.int .i64 a1_0, .slice A1_1 l1_1.length c1_1] 34 (0, 0)) (by (with_reducible repeat (first | refine qu_ ?_ _ | refine qv_ ?_ | refine qw_ ?_ _)); exact BK188.out)) : gb214 ≠ gb188)); have n17_ := qm_ ((by rw [hg]; exact Nat.ne_of_lt (blk_lt (g := gb204) (o := .cells #[.int .i64 t199, v201] 24 (0, 0)) (by (with_reducible repeat (first | refine qu_ ?_ _ | refine qv_ ?_ | refine qw_ ?_ _)); exact BK204.out)) : gb204 ≠ gb214)); have n18_ := qm_ ((by rw [hg]; exact Nat.ne_of_gt (blk_lt (g := gb204) (o := .cells #[.int .i64 t199, v201] 24 (0, 0)) (by (with_reducible repeat (first | refine qu_ ?_ _ | refine qv_ ?_ | refine qw_ ?_ _)); exact BK204.out)) : gb214 ≠ gb204)); have n19_ := qm_ ((by rw [hg]; exact Nat.ne_of_lt (blk_lt (g := gb209) (o := .cells #[.int .i64 t205, .slice Ao66 t206.length co66] 24 (0, 0)) (by (with_reducible repeat (first | refine qu_ ?_ _ | refine qv_ ?_ | refine qw_ ?_ _)); exact BK209.out)) : gb209 ≠ gb214)); have n20_ := qm_ ((by rw [hg]; exact Nat.ne_of_gt (blk_lt (g := gb209) (o := .cells #[.int .i64 t205, .slice Ao66 t206.length co66] 24 (0, 0)) (by (with_reducible repeat (first | refine qu_ ?_ _ | refine qv_ ?_ | refine qw_ ?_ _)); exact BK209.out)) : gb214 ≠ gb209)); clear HO194; clear HO198; clear HO202; clear HO208; clear HO213; clear BK187; clear BK188; clear BK204; clear BK209; clear HB; have HO194 := n0_; have HO198 := n1_; have HO202 := n2_; have HO208 := n3_; have HO213 := n4_; have BK187 := n5_; have BK188 := n6_; have BK204 := n7_; have BK209 := n8_; have HB := n9_; have BK214 := n10_; have GW214 := n11_; have GE214 := n12_; have NB187_214 := n13_; have NB214_187 := n14_; have NB188_214 := n15_; have NB214_188 := n16_; have NB204_214 := n17_; have NB214_204 := n18_; have NB209_214 := n19_; have NB214_209 := n20_; clear n0_ n1_ n2_ n3_ n4_ n5_ n6_ n7_ n8_ n9_ n10_ n11_ n12_ n13_ n14_ n15_ n16_ n17_ n18_ n19_ n20_; clear hb hbox hg; have hnb71 := NB214_187.out; have hnc71 := NB187_214.out; have hnb72 := NB214_188.out; have hnc72 := NB188_214.out; have hnb73 := NB214_204.out; have hnc73 := NB204_214.out; have hnb74 := NB214_209.out; have hnc74 := NB209_214.out; have hcz75_0 : w70.cell? ⟨gb214, 0, none⟩ = some (.int .i64 0) := (blk_cell BK214.out 0).trans rfl; have hcz75_1 : w70.cell? ⟨gb214, 1, none⟩ = some (.slice none 0 0) := (blk_cell BK214.out 1).trans rfl; have hfz75_0 := blk_frozen BK214.out 0; have hfz75_1 := blk_frozen BK214.out 1; obtain ⟨Ao76, co76, eo76⟩ := Kd.R_slice HO213.out; subst eo76; have hcz77_0 : w70.cell? ⟨gb209, 0, none⟩ = some (.int .i64 t205) := (blk_cell BK209.out 0).trans rfl; have hcz77_1 : w70.cell? ⟨gb209, 1, none⟩ = some (.slice Ao66 t206.length co66) := (blk_cell BK209.out 1).trans rfl; have hfz77_0 := blk_frozen BK209.out 0; have hfz77_1 := blk_frozen BK209.out 1) | ((with_reducible refine gate_callee (f := 39) rfl ?_); refine goesL_ (some 42) rfl rfl Try.func39 (by kernel_rfl) rfl #[.agg #[.int .i64 t205, .slice Ao66 t206.length co66], .agg #[.int .i64 t210, .slice Ao76 t211.length co76]] rfl (by (try simp only [List.map_toArray, List.map_cons, List.map_nil]); first | done | rfl | (simp only [List.length_drop, List.length_take]; rfl)) ?_; (with_reducible refine (impl_BothBits.calls k t205 _ _ t206 t210 _ _ t211 t215 t216 t219 _ ?side1 ?side2 ?side3 ?side4 A12.out).mono ?_); (case side1 => refine (Kd.R_reads' (e := 3) (base := w.heap.size) (ok := fun k_ => ((((True ∧ some k_ ≠ (v193 : Value).ownBlock) ∧ some k_ ≠ (v197 : Value).ownBlock) ∧ some k_ ≠ (v201 : Value).ownBlock) ∧ some k_ ≠ (.slice Ao76 t211.length co76 : Value).ownBlock)) (n := t206.length) (c := co66) ?_).2.2; exact (by (with_reducible repeat (first | apply qa_ | apply qn_ | apply qd_)); exact (Kd.R_mono (Kd.R_far (p := ⟨gb214, 1, none⟩) (Kd.R_far (p := ⟨gb214, 0, none⟩) (Kd.R_types HO208.out BK214.out (by decide)) (fun _ hk => hk.2) (.int .i64 t210)) (fun _ hk => hk.2) (.slice Ao76 t211.length co76)) (fun _ h_ => h_.1)))); (case side2 => exact (Kd.R_reads' HO208.out).2.1); (case side3 => refine (Kd.R_reads' (e := 3) (base := w.heap.size) (ok := fun k_ => ((((True ∧ some k_ ≠ (v193 : Value).ownBlock) ∧ some k_ ≠ (v197 : Value).ownBlock) ∧ some k_ ≠ (v201 : Value).ownBlock) ∧ some k_ ≠ (.slice Ao66 t206.length co66 : Value).ownBlock)) (n := t211.length) (c := co76) ?_).2.2; exact (by (with_reducible repeat (first | apply qa_ | apply qn_ | apply qd_)); exact (Kd.R_mono (Kd.R_far (p := ⟨gb214, 1, none⟩) (Kd.R_far (p := ⟨gb214, 0, none⟩) (Kd.R_types HO213.out BK214.out (by decide)) (fun _ hk => hk.2) (.int .i64 t210)) (fun _ hk => hk.2) (.slice Ao76 t211.length co76)) (fun _ h_ => h_.1)))); (case side4 => exact (Kd.R_reads' HO213.out).2.1); rintro e w78 ⟨v217, rfl, ho0, hb⟩; refine ⟨_, rfl, ?_⟩; have n0_ := qm_ (Kd.R_elder' (by (with_reducible repeat (first | apply qa_ | apply qn_ | apply qd_)); exact (Kd.R_mono (Kd.R_far (p := ⟨gb214, 1, none⟩) (Kd.R_far (p := ⟨gb214, 0, none⟩) (Kd.R_types HO194.out BK214.out (by decide)) (fun _ hk => hk.2) (.int .i64 t210)) (fun _ hk => hk.2) (.slice Ao76 t211.length co76)) (fun _ h_ => h_.1))) (Kd.R_base ho0) hb); have n1_ := qm_ (Kd.R_elder' (by (with_reducible repeat (first | apply qa_ | apply qn_ | apply qd_)); exact (Kd.R_mono (Kd.R_far (p := ⟨gb214, 1, none⟩) (Kd.R_far (p := ⟨gb214, 0, none⟩) (Kd.R_types HO198.out BK214.out (by decide)) (fun _ hk => hk.2) (.int .i64 t210)) (fun _ hk => hk.2) (.slice Ao76 t211.length co76)) (fun _ h_ => h_.1))) (Kd.R_base ho0) hb); have n2_ := qm_ (Kd.R_elder' (by (with_reducible repeat (first | apply qa_ | apply qn_ | apply qd_)); exact (Kd.R_mono (Kd.R_far (p := ⟨gb214, 1, none⟩) (Kd.R_far (p := ⟨gb214, 0, none⟩) (Kd.R_types HO202.out BK214.out (by decide)) (fun _ hk => hk.2) (.int .i64 t210)) (fun _ hk => hk.2) (.slice Ao76 t211.length co76)) (fun _ h_ => h_.1))) (Kd.R_base ho0) hb); have n3_ := qm_ (Kd.R_elder' (by (with_reducible repeat (first | apply qa_ | apply qn_ | apply qd_)); exact (Kd.R_mono (Kd.R_far (p := ⟨gb214, 1, none⟩) (Kd.R_far (p := ⟨gb214, 0, none⟩) (Kd.R_types HO208.out BK214.out (by decide)) (fun _ hk => hk.2) (.int .i64 t210)) (fun _ hk => hk.2) (.slice Ao76 t211.length co76)) (fun _ h_ => h_.1))) (Kd.R_base ho0) hb); have n4_ := qm_ (Kd.R_elder' (by (with_reducible repeat (first | apply qa_ | apply qn_ | apply qd_)); exact (Kd.R_mono (Kd.R_far (p := ⟨gb214, 1, none⟩) (Kd.R_far (p := ⟨gb214, 0, none⟩) (Kd.R_types HO213.out BK214.out (by decide)) (fun _ hk => hk.2) (.int .i64 t210)) (fun _ hk => hk.2) (.slice Ao76 t211.length co76)) (fun _ h_ => h_.1))) (Kd.R_base ho0) hb); have n5_ := qm_ (ql_ (qe_ (qe_ (qe_ (qe_ (qe_ ho0 (qt_ (by (with_reducible repeat (first | apply qa_ | apply qn_ | apply qd_)); exact (Kd.R_mono (Kd.R_far (p := ⟨gb214, 1, none⟩) (Kd.R_far (p := ⟨gb214, 0, none⟩) (Kd.R_types HO194.out BK214.out (by decide)) (fun _ hk => hk.2) (.int .i64 t210)) (fun _ hk => hk.2) (.slice Ao76 t211.length co76)) (fun _ h_ => h_.1))))) (qt_ (by (with_reducible repeat (first | apply qa_ | apply qn_ | apply qd_)); exact (Kd.R_mono (Kd.R_far (p := ⟨gb214, 1, none⟩) (Kd.R_far (p := ⟨gb214, 0, none⟩) (Kd.R_types HO198.out BK214.out (by decide)) (fun _ hk => hk.2) (.int .i64 t210)) (fun _ hk => hk.2) (.slice Ao76 t211.length co76)) (fun _ h_ => h_.1))))) (qt_ (by (with_reducible repeat (first | apply qa_ | apply qn_ | apply qd_)); exact (Kd.R_mono (Kd.R_far (p := ⟨gb214, 1, none⟩) (Kd.R_far (p := ⟨gb214, 0, none⟩) (Kd.R_types HO202.out BK214.out (by decide)) (fun _ hk => hk.2) (.int .i64 t210)) (fun _ hk => hk.2) (.slice Ao76 t211.length co76)) (fun _ h_ => h_.1))))) (qt_ (by (with_reducible repeat (first | apply qa_ | apply qn_ | apply qd_)); exact (Kd.R_mono (Kd.R_far (p := ⟨gb214, 1, none⟩) (Kd.R_far (p := ⟨gb214, 0, none⟩) (Kd.R_types HO208.out BK214.out (by decide)) (fun _ hk => hk.2) (.int .i64 t210)) (fun _ hk => hk.2) (.slice Ao76 t211.length co76)) (fun _ h_ => h_.1))))) (qt_ (by (with_reducible repeat (first | apply qa_ | apply qn_ | apply qd_)); exact (Kd.R_mono (Kd.R_far (p := ⟨gb214, 1, none⟩) (Kd.R_far (p := ⟨gb214, 0, none⟩) (Kd.R_types HO213.out BK214.out (by decide)) (fun _ hk => hk.2) (.int .i64 t210)) (fun _ hk => hk.2) (.slice Ao76 t211.length co76)) (fun _ h_ => h_.1))))) (qz_ (by repeat (first | (with_reducible first | exact HB.out | apply qc_ | apply qx_ | apply qf_ | refine qg_ ?_ GE187.out | refine qg_ ?_ GE188.out | refine qg_ ?_ GE204.out | refine qg_ ?_ GE209.out | refine qg_ ?_ GE214.out) | exact HB.out)))); have n6_ := qm_ (qs_ (g := gb187) (o := .cells #[.int .i64 a0_0, .slice A0_1 l0_1.length c0_1] 34 (0, 0)) (by (with_reducible repeat (first | refine qu_ ?_ _ | refine qv_ ?_ | refine qw_ ?_ _)); refine blk_far ?_ NB187_214.out _; (with_reducible repeat (first | refine qu_ ?_ _ | refine qv_ ?_ | refine qw_ ?_ _)); refine blk_far ?_ NB187_214.out _; (with_reducible repeat (first | refine qu_ ?_ _ | refine qv_ ?_ | refine qw_ ?_ _)); exact BK187.out) hb); have n7_ := qm_ (qs_ (g := gb188) (o := .cells #[.int .i64 a1_0, .slice A1_1 l1_1.length c1_1] 34 (0, 0)) (by (with_reducible repeat (first | refine qu_ ?_ _ | refine qv_ ?_ | refine qw_ ?_ _)); refine blk_far ?_ NB188_214.out _; (with_reducible repeat (first | refine qu_ ?_ _ | refine qv_ ?_ | refine qw_ ?_ _)); refine blk_far ?_ NB188_214.out _; (with_reducible repeat (first | refine qu_ ?_ _ | refine qv_ ?_ | refine qw_ ?_ _)); exact BK188.out) hb); have n8_ := qm_ (qs_ (g := gb204) (o := .cells #[.int .i64 t199, v201] 24 (0, 0)) (by (with_reducible repeat (first | refine qu_ ?_ _ | refine qv_ ?_ | refine qw_ ?_ _)); refine blk_far ?_ NB204_214.out _; (with_reducible repeat (first | refine qu_ ?_ _ | refine qv_ ?_ | refine qw_ ?_ _)); refine blk_far ?_ NB204_214.out _; (with_reducible repeat (first | refine qu_ ?_ _ | refine qv_ ?_ | refine qw_ ?_ _)); exact BK204.out) hb); have n9_ := qm_ (qs_ (g := gb209) (o := .cells #[.int .i64 t205, .slice Ao66 t206.length co66] 24 (0, 0)) (by (with_reducible repeat (first | refine qu_ ?_ _ | refine qv_ ?_ | refine qw_ ?_ _)); refine blk_far ?_ NB209_214.out _; (with_reducible repeat (first | refine qu_ ?_ _ | refine qv_ ?_ | refine qw_ ?_ _)); refine blk_far ?_ NB209_214.out _; (with_reducible repeat (first | refine qu_ ?_ _ | refine qv_ ?_ | refine qw_ ?_ _)); exact BK209.out) hb); have n10_ := qm_ (qs_ (g := gb214) (o := .cells #[.int .i64 t210, .slice Ao76 t211.length co76] 24 (0, 0)) (by (with_reducible repeat (first | refine qu_ ?_ _ | refine qv_ ?_ | refine qw_ ?_ _)); refine blk_put (cs := #[.int .i64 t210, .slice none 0 0]) ?_ 1 _ rfl; (with_reducible repeat (first | refine qu_ ?_ _ | refine qv_ ?_ | refine qw_ ?_ _)); refine blk_put (cs := #[.int .i64 0, .slice none 0 0]) ?_ 0 _ rfl; (with_reducible repeat (first | refine qu_ ?_ _ | refine qv_ ?_ | refine qw_ ?_ _)); exact BK214.out) hb); have n11_ := qm_ (qh_ (by repeat (first | (with_reducible first | exact HB.out | apply qc_ | apply qx_ | apply qf_ | refine qg_ ?_ GE187.out | refine qg_ ?_ GE188.out | refine qg_ ?_ GE204.out | refine qg_ ?_ GE209.out | refine qg_ ?_ GE214.out) | exact HB.out)) hb); clear HO194; clear HO198; clear HO202; clear HO208; clear HO213; clear BK187; clear BK188; clear BK204; clear BK209; clear BK214; clear HB; have HO194 := n0_; have HO198 := n1_; have HO202 := n2_; have HO208 := n3_; have HO213 := n4_; have HO218 := n5_; have BK187 := n6_; have BK188 := n7_; have BK204 := n8_; have BK209 := n9_; have BK214 := n10_; have HB := n11_; clear n0_ n1_ n2_ n3_ n4_ n5_ n6_ n7_ n8_ n9_ n10_ n11_; (try clear hb); (try clear hb2); (try clear hk); (try clear hi); (try clear ho0)) | ((with_reducible refine gate_dst (N := 10) rfl ?_); refine box_event ?hg (N := 10) ?hd (cs := #[.int .i64 0, .slice none 0 0]) (t := 24) ?hr ?_; (case hd => rfl); (case hg => rfl); (case hr => first | (go_simp; done) | (go_simp; rfl)); intro gb220 hg w79 hbox hb; have n0_ := qm_ (qb_ (by (with_reducible repeat (first | apply qa_ | apply qn_ | apply qd_)); exact HO194.out) hb); have n1_ := qm_ (qb_ (by (with_reducible repeat (first | apply qa_ | apply qn_ | apply qd_)); exact HO198.out) hb); have n2_ := qm_ (qb_ (by (with_reducible repeat (first | apply qa_ | apply qn_ | apply qd_)); exact HO202.out) hb); have n3_ := qm_ (qb_ (by (with_reducible repeat (first | apply qa_ | apply qn_ | apply qd_)); exact HO208.out) hb); have n4_ := qm_ (qb_ (by (with_reducible repeat (first | apply qa_ | apply qn_ | apply qd_)); exact HO213.out) hb); have n5_ := qm_ (qb_ (by (with_reducible repeat (first | apply qa_ | apply qn_ | apply qd_)); exact HO218.out) hb); have n6_ := qm_ (qs_ (g := gb187) (o := .cells #[.int .i64 a0_0, .slice A0_1 l0_1.length c0_1] 34 (0, 0)) (by (with_reducible repeat (first | refine qu_ ?_ _ | refine qv_ ?_ | refine qw_ ?_ _)); exact BK187.out) hb); have n7_ := qm_ (qs_ (g := gb188) (o := .cells #[.int .i64 a1_0, .slice A1_1 l1_1.length c1_1] 34 (0, 0)) (by (with_reducible repeat (first | refine qu_ ?_ _ | refine qv_ ?_ | refine qw_ ?_ _)); exact BK188.out) hb); have n8_ := qm_ (qs_ (g := gb204) (o := .cells #[.int .i64 t199, v201] 24 (0, 0)) (by (with_reducible repeat (first | refine qu_ ?_ _ | refine qv_ ?_ | refine qw_ ?_ _)); exact BK204.out) hb); have n9_ := qm_ (qs_ (g := gb209) (o := .cells #[.int .i64 t205, .slice Ao66 t206.length co66] 24 (0, 0)) (by (with_reducible repeat (first | refine qu_ ?_ _ | refine qv_ ?_ | refine qw_ ?_ _)); exact BK209.out) hb); have n10_ := qm_ (qs_ (g := gb214) (o := .cells #[.int .i64 t210, .slice Ao76 t211.length co76] 24 (0, 0)) (by (with_reducible repeat (first | refine qu_ ?_ _ | refine qv_ ?_ | refine qw_ ?_ _)); exact BK214.out) hb); have n11_ := qm_ (qh_ (by repeat (first | (with_reducible first | exact HB.out | apply qc_ | apply qx_ | apply qf_ | refine qg_ ?_ GE187.out | refine qg_ ?_ GE188.out | refine qg_ ?_ GE204.out | refine qg_ ?_ GE209.out | refine qg_ ?_ GE214.out) | exact HB.out)) hb); have n12_ := qm_ (hbox); have n13_ := qm_ ((by rw [hg]; exact (qz_ (by repeat (first | (with_reducible first | exact HB.out | apply qc_ | apply qx_ | apply qf_ | refine qg_ ?_ GE187.out | refine qg_ ?_ GE188.out | refine qg_ ?_ GE204.out | refine qg_ ?_ GE209.out | refine qg_ ?_ GE214.out) | exact HB.out))) : w.heap.size ≤ gb220)); have n14_ := qm_ ((by rw [hg]; exact (qz_ (by repeat (first | (with_reducible first | exact HB.out | apply qc_ | apply qx_ | apply qf_ | refine qg_ ?_ GE187.out | refine qg_ ?_ GE188.out | refine qg_ ?_ GE204.out | refine qg_ ?_ GE209.out | refine qg_ ?_ GE214.out) | exact HB.out))) : w.heap.size ≤ gb220)); have n15_ := qm_ ((by rw [hg]; exact Nat.ne_of_lt (blk_lt (g := gb187) (o := .cells #[.int .i64 a0_0, .slice A0_1 l0_1.length c0_1] 34 (0, 0)) (by (with_reducible repeat (first | refine qu_ ?_ _ | refine qv_ ?_ | refine qw_ ?_ _)); exact BK187.out)) : gb187 ≠ gb220)); have n16_ := qm_ ((by rw [hg]; exact Nat.ne_of_gt (blk_lt (g := gb187) (o := .cells #[.int .i64 a0_0, .slice A0_1 l0_1.length c0_1] 34 (0, 0)) (by (with_reducible repeat (first | refine qu_ ?_ _ | refine qv_ ?_ | refine qw_ ?_ _)); exact BK187.out)) : gb220 ≠ gb187)); have n17_ := qm_ ((by rw [hg]; exact Nat.ne_of_lt (blk_lt (g := gb188) (o := .cells #[.int .i64 a1_0, .slice A1_1 l1_1.length c1_1] 34 (0, 0)) (by (with_reducible repeat (first | refine qu_ ?_ _ | refine qv_ ?_ | refine qw_ ?_ _)); exact BK188.out)) : gb188 ≠ gb220)); have n18_ := qm_ ((by rw [hg]; exact Nat.ne_of_gt (blk_lt (g := gb188) (o := .cells #[.int .i64 a1_0, .slice A1_1 l1_1.length c1_1] 34 (0, 0)) (by (with_reducible repeat (first | refine qu_ ?_ _ | refine qv_ ?_ | refine qw_ ?_ _)); exact BK188.out)) : gb220 ≠ gb188)); have n19_ := qm_ ((by rw [hg]; exact Nat.ne_of_lt (blk_lt (g := gb204) (o := .cells #[.int .i64 t199, v201] 24 (0, 0)) (by (with_reducible repeat (first | refine qu_ ?_ _ | refine qv_ ?_ | refine qw_ ?_ _)); exact BK204.out)) : gb204 ≠ gb220)); have n20_ := qm_ ((by rw [hg]; exact Nat.ne_of_gt (blk_lt (g := gb204) (o := .cells #[.int .i64 t199, v201] 24 (0, 0)) (by (with_reducible repeat (first | refine qu_ ?_ _ | refine qv_ ?_ | refine qw_ ?_ _)); exact BK204.out)) : gb220 ≠ gb204)); have n21_ := qm_ ((by rw [hg]; exact Nat.ne_of_lt (blk_lt (g := gb209) (o := .cells #[.int .i64 t205, .slice Ao66 t206.length co66] 24 (0, 0)) (by (with_reducible repeat (first | refine qu_ ?_ _ | refine qv_ ?_ | refine qw_ ?_ _)); exact BK209.out)) : gb209 ≠ gb220)); have n22_ := qm_ ((by rw [hg]; exact Nat.ne_of_gt (blk_lt (g := gb209) (o := .cells #[.int .i64 t205, .slice Ao66 t206.length co66] 24 (0, 0)) (by (with_reducible repeat (first | refine qu_ ?_ _ | refine qv_ ?_ | refine qw_ ?_ _)); exact BK209.out)) : gb220 ≠ gb209)); have n23_ := qm_ ((by rw [hg]; exact Nat.ne_of_lt (blk_lt (g := gb214) (o := .cells #[.int .i64 t210, .slice Ao76 t211.length co76] 24 (0, 0)) (by (with_reducible repeat (first | refine qu_ ?_ _ | refine qv_ ?_ | refine qw_ ?_ _)); exact BK214.out)) : gb214 ≠ gb220)); have n24_ := qm_ ((by rw [hg]; exact Nat.ne_of_gt (blk_lt (g := gb214) (o := .cells #[.int .i64 t210, .slice Ao76 t211.length co76] 24 (0, 0)) (by (with_reducible repeat (first | refine qu_ ?_ _ | refine qv_ ?_ | refine qw_ ?_ _)); exact BK214.out)) : gb220 ≠ gb214)); clear HO194; clear HO198; clear HO202; clear HO208; clear HO213; clear HO218; clear BK187; clear BK188; clear BK204; clear BK209; clear BK214; clear HB; have HO194 := n0_; have HO198 := n1_; have HO202 := n2_; have HO208 := n3_; have HO213 := n4_; have HO218 := n5_; have BK187 := n6_; have BK188 := n7_; have BK204 := n8_; have BK209 := n9_; have BK214 := n10_; have HB := n11_; have BK220 := n12_; have GW220 := n13_; have GE220 := n14_; have NB187_220 := n15_; have NB220_187 := n16_; have NB188_220 := n17_; have NB220_188 := n18_; have NB204_220 := n19_; have NB220_204 := n20_; have NB209_220 := n21_; have NB220_209 := n22_; have NB214_220 := n23_; have NB220_214 := n24_; clear n0_ n1_ n2_ n3_ n4_ n5_ n6_ n7_ n8_ n9_ n10_ n11_ n12_ n13_ n14_ n15_ n16_ n17_ n18_ n19_ n20_ n21_ n22_ n23_ n24_; clear hb hbox hg; have hnb80 := NB220_187.out; have hnc80 := NB187_220.out; have hnb81 := NB220_188.out; have hnc81 := NB188_220.out; have hnb82 := NB220_204.out; have hnc82 := NB204_220.out; have hnb83 := NB220_209.out; have hnc83 := NB209_220.out; have hnb84 := NB220_214.out; have hnc84 := NB214_220.out; have hcz85_0 : w79.cell? ⟨gb220, 0, none⟩ = some (.int .i64 0) := (blk_cell BK220.out 0).trans rfl; have hcz85_1 : w79.cell? ⟨gb220, 1, none⟩ = some (.slice none 0 0) := (blk_cell BK220.out 1).trans rfl; have hfz85_0 := blk_frozen BK220.out 0; have hfz85_1 := blk_frozen BK220.out 1; obtain ⟨Ao86, co86, eo86⟩ := Kd.R_slice HO218.out; subst eo86; have hcz87_0 : w79.cell? ⟨gb204, 0, none⟩ = some (.int .i64 t199) := (blk_cell BK204.out 0).trans rfl; have hcz87_1 : w79.cell? ⟨gb204, 1, none⟩ = some (v201) := (blk_cell BK204.out 1).trans rfl; have hfz87_0 := blk_frozen BK204.out 0; have hfz87_1 := blk_frozen BK204.out 1; obtain ⟨Ao88, co88, eo88⟩ := Kd.R_slice HO202.out; subst eo88) | ((with_reducible refine gate_callee (f := 15) rfl ?_); refine goesL_ (some 47) rfl rfl Try.func15 (by kernel_rfl) rfl #[.agg #[.int .i64 t215, .slice Ao86 t216.length co86], .agg #[.int .i64 t199, .slice Ao88 t200.length co88]] rfl (by (try simp only [List.map_toArray, List.map_cons, List.map_nil]); first | done | rfl | (simp only [List.length_drop, List.length_take]; rfl)) ?_; (with_reducible refine (laws_eqBits.calls k t215 _ _ t216 t199 _ _ t200 true _ ?side1 ?side2 ?side3 ?side4 A13.out).mono ?_); (case side1 => refine (Kd.R_reads' (e := 3) (base := w.heap.size) (ok := fun k_ => (((((True ∧ some k_ ≠ (v193 : Value).ownBlock) ∧ some k_ ≠ (v197 : Value).ownBlock) ∧ some k_ ≠ (.slice Ao88 t200.length co88 : Value).ownBlock) ∧ some k_ ≠ (.slice Ao66 t206.length co66 : Value).ownBlock) ∧ some k_ ≠ (.slice Ao76 t211.length co76 : Value).ownBlock)) (n := t216.length) (c := co86) ?_).2.2; exact (by (with_reducible repeat (first | apply qa_ | apply qn_ | apply qd_)); exact (Kd.R_mono (Kd.R_far (p := ⟨gb220, 1, none⟩) (Kd.R_far (p := ⟨gb220, 0, none⟩) (Kd.R_types HO218.out BK220.out (by decide)) (fun _ hk => hk.2) (.int .i64 t215)) (fun _ hk => hk.2) (.slice Ao86 t216.length co86)) (fun _ h_ => h_.1)))); (case side2 => exact (Kd.R_reads' HO218.out).2.1); (case side3 => refine (Kd.R_reads' (e := 3) (base := w.heap.size) (ok := fun k_ => (((True ∧ some k_ ≠ (.slice Ao66 t206.length co66 : Value).ownBlock) ∧ some k_ ≠ (.slice Ao76 t211.length co76 : Value).ownBlock) ∧ some k_ ≠ (.slice Ao86 t216.length co86 : Value).ownBlock)) (n := t200.length) (c := co88) ?_).2.2; exact (by (with_reducible repeat (first | apply qa_ | apply qn_ | apply qd_)); exact (Kd.R_mono (Kd.R_far (p := ⟨gb220, 1, none⟩) (Kd.R_far (p := ⟨gb220, 0, none⟩) (Kd.R_types HO202.out BK220.out (by decide)) (fun _ hk => hk.2) (.int .i64 t215)) (fun _ hk => hk.2) (.slice Ao86 t216.length co86)) (fun _ h_ => h_.1)))); (case side4 => exact (Kd.R_reads' HO202.out).2.1); rintro e w89 ⟨rfl, hb⟩; refine ⟨_, rfl, ?_⟩; have n0_ := qm_ (qb_ (by (with_reducible repeat (first | apply qa_ | apply qn_ | apply qd_)); exact (Kd.R_mono (Kd.R_far (p := ⟨gb220, 1, none⟩) (Kd.R_far (p := ⟨gb220, 0, none⟩) (Kd.R_types HO194.out BK220.out (by decide)) (fun _ hk => hk.2) (.int .i64 t215)) (fun _ hk => hk.2) (.slice Ao86 t216.length co86)) (fun _ h_ => h_.1))) hb); have n1_ := qm_ (qb_ (by (with_reducible repeat (first | apply qa_ | apply qn_ | apply qd_)); exact (Kd.R_mono (Kd.R_far (p := ⟨gb220, 1, none⟩) (Kd.R_far (p := ⟨gb220, 0, none⟩) (Kd.R_types HO198.out BK220.out (by decide)) (fun _ hk => hk.2) (.int .i64 t215)) (fun _ hk => hk.2) (.slice Ao86 t216.length co86)) (fun _ h_ => h_.1))) hb); have n2_ := qm_ (qb_ (by (with_reducible repeat (first | apply qa_ | apply qn_ | apply qd_)); exact (Kd.R_mono (Kd.R_far (p := ⟨gb220, 1, none⟩) (Kd.R_far (p := ⟨gb220, 0, none⟩) (Kd.R_types HO202.out BK220.out (by decide)) (fun _ hk => hk.2) (.int .i64 t215)) (fun _ hk => hk.2) (.slice Ao86 t216.length co86)) (fun _ h_ => h_.1))) hb); have n3_ := qm_ (qb_ (by (with_reducible repeat (first | apply qa_ | apply qn_ | apply qd_)); exact (Kd.R_mono (Kd.R_far (p := ⟨gb220, 1, none⟩) (Kd.R_far (p := ⟨gb220, 0, none⟩) (Kd.R_types HO208.out BK220.out (by decide)) (fun _ hk => hk.2) (.int .i64 t215)) (fun _ hk => hk.2) (.slice Ao86 t216.length co86)) (fun _ h_ => h_.1))) hb); have n4_ := qm_ (qb_ (by (with_reducible repeat (first | apply qa_ | apply qn_ | apply qd_)); exact (Kd.R_mono (Kd.R_far (p := ⟨gb220, 1, none⟩) (Kd.R_far (p := ⟨gb220, 0, none⟩) (Kd.R_types HO213.out BK220.out (by decide)) (fun _ hk => hk.2) (.int .i64 t215)) (fun _ hk => hk.2) (.slice Ao86 t216.length co86)) (fun _ h_ => h_.1))) hb); have n5_ := qm_ (qb_ (by (with_reducible repeat (first | apply qa_ | apply qn_ | apply qd_)); exact (Kd.R_mono (Kd.R_far (p := ⟨gb220, 1, none⟩) (Kd.R_far (p := ⟨gb220, 0, none⟩) (Kd.R_types HO218.out BK220.out (by decide)) (fun _ hk => hk.2) (.int .i64 t215)) (fun _ hk => hk.2) (.slice Ao86 t216.length co86)) (fun _ h_ => h_.1))) hb); have n6_ := qm_ (qs_ (g := gb187) (o := .cells #[.int .i64 a0_0, .slice A0_1 l0_1.length c0_1] 34 (0, 0)) (by (with_reducible repeat (first | refine qu_ ?_ _ | refine qv_ ?_ | refine qw_ ?_ _)); refine blk_far ?_ NB187_220.out _; (with_reducible repeat (first | refine qu_ ?_ _ | refine qv_ ?_ | refine qw_ ?_ _)); refine blk_far ?_ NB187_220.out _; (with_reducible repeat (first | refine qu_ ?_ _ | refine qv_ ?_ | refine qw_ ?_ _)); exact BK187.out) hb); have n7_ := qm_ (qs_ (g := gb188) (o := .cells #[.int .i64 a1_0, .slice A1_1 l1_1.length c1_1] 34 (0, 0)) (by (with_reducible repeat (first | refine qu_ ?_ _ | refine qv_ ?_ | refine qw_ ?_ _)); refine blk_far ?_ NB188_220.out _; (with_reducible repeat (first | refine qu_ ?_ _ | refine qv_ ?_ | refine qw_ ?_ _)); refine blk_far ?_ NB188_220.out _; (with_reducible repeat (first | refine qu_ ?_ _ | refine qv_ ?_ | refine qw_ ?_ _)); exact BK188.out) hb); have n8_ := qm_ (qs_ (g := gb204) (o := .cells #[.int .i64 t199, .slice Ao88 t200.length co88] 24 (0, 0)) (by (with_reducible repeat (first | refine qu_ ?_ _ | refine qv_ ?_ | refine qw_ ?_ _)); refine blk_far ?_ NB204_220.out _; (with_reducible repeat (first | refine qu_ ?_ _ | refine qv_ ?_ | refine qw_ ?_ _)); refine blk_far ?_ NB204_220.out _; (with_reducible repeat (first | refine qu_ ?_ _ | refine qv_ ?_ | refine qw_ ?_ _)); exact BK204.out) hb); have n9_ := qm_ (qs_ (g := gb209) (o := .cells #[.int .i64 t205, .slice Ao66 t206.length co66] 24 (0, 0)) (by (with_reducible repeat (first | refine qu_ ?_ _ | refine qv_ ?_ | refine qw_ ?_ _)); refine blk_far ?_ NB209_220.out _; (with_reducible repeat (first | refine qu_ ?_ _ | refine qv_ ?_ | refine qw_ ?_ _)); refine blk_far ?_ NB209_220.out _; (with_reducible repeat (first | refine qu_ ?_ _ | refine qv_ ?_ | refine qw_ ?_ _)); exact BK209.out) hb); have n10_ := qm_ (qs_ (g := gb214) (o := .cells #[.int .i64 t210, .slice Ao76 t211.length co76] 24 (0, 0)) (by (with_reducible repeat (first | refine qu_ ?_ _ | refine qv_ ?_ | refine qw_ ?_ _)); refine blk_far ?_ NB214_220.out _; (with_reducible repeat (first | refine qu_ ?_ _ | refine qv_ ?_ | refine qw_ ?_ _)); refine blk_far ?_ NB214_220.out _; (with_reducible repeat (first | refine qu_ ?_ _ | refine qv_ ?_ | refine qw_ ?_ _)); exact BK214.out) hb); have n11_ := qm_ (qs_ (g := gb220) (o := .cells #[.int .i64 t215, .slice Ao86 t216.length co86] 24 (0, 0)) (by (with_reducible repeat (first | refine qu_ ?_ _ | refine qv_ ?_ | refine qw_ ?_ _)); refine blk_put (cs := #[.int .i64 t215, .slice none 0 0]) ?_ 1 _ rfl; (with_reducible repeat (first | refine qu_ ?_ _ | refine qv_ ?_ | refine qw_ ?_ _)); refine blk_put (cs := #[.int .i64 0, .slice none 0 0]) ?_ 0 _ rfl; (with_reducible repeat (first | refine qu_ ?_ _ | refine qv_ ?_ | refine qw_ ?_ _)); exact BK220.out) hb); have n12_ := qm_ (qh_ (by repeat (first | (with_reducible first | exact HB.out | apply qc_ | apply qx_ | apply qf_ | refine qg_ ?_ GE187.out | refine qg_ ?_ GE188.out | refine qg_ ?_ GE204.out | refine qg_ ?_ GE209.out | refine qg_ ?_ GE214.out | refine qg_ ?_ GE220.out) | exact HB.out)) hb); clear HO194; clear HO198; clear HO202; clear HO208; clear HO213; clear HO218; clear BK187; clear BK188; clear BK204; clear BK209; clear BK214; clear BK220; clear HB; have HO194 := n0_; have HO198 := n1_; have HO202 := n2_; have HO208 := n3_; have HO213 := n4_; have HO218 := n5_; have BK187 := n6_; have BK188 := n7_; have BK204 := n8_; have BK209 := n9_; have BK214 := n10_; have BK220 := n11_; have HB := n12_; clear n0_ n1_ n2_ n3_ n4_ n5_ n6_ n7_ n8_ n9_ n10_ n11_ n12_; (try clear hb); (try clear hb2); (try clear hk); (try clear hi)))
        have n0_ := qm_ (qd_ HO194.out)
        have n1_ := qm_ (qd_ HO198.out)
        have n2_ := qm_ (qd_ HO202.out)
        have n3_ := qm_ (qd_ HO208.out)
        have n4_ := qm_ (qd_ HO213.out)
        have n5_ := qm_ (qd_ HO218.out)
        have n6_ := qm_ (qv_ BK187.out)
        have n7_ := qm_ (qv_ BK188.out)
        have n8_ := qm_ (qv_ BK204.out)
        have n9_ := qm_ (qv_ BK209.out)
        have n10_ := qm_ (qv_ BK214.out)
        have n11_ := qm_ (qv_ BK220.out)
        have n12_ := qm_ (qf_ HB.out)
        clear HO194
        clear HO198
        clear HO202
        clear HO208
        clear HO213
        clear HO218
        clear BK187
        clear BK188
        clear BK204
        clear BK209
        clear BK214
        clear BK220
        clear HB
        have HO194 := n0_
        have HO198 := n1_
        have HO202 := n2_
        have HO208 := n3_
        have HO213 := n4_
        have HO218 := n5_
        have BK187 := n6_
        have BK188 := n7_
        have BK204 := n8_
        have BK209 := n9_
        have BK214 := n10_
        have BK220 := n11_
        have HB := n12_
        clear n0_ n1_ n2_ n3_ n4_ n5_ n6_ n7_ n8_ n9_ n10_ n11_ n12_
        refine start_ (n := 5) (S := fun w' => w'.cell? ⟨gb209, 0, none⟩ = some (.int .i64 t205) ∧ w'.cell? ⟨gb209, 1, none⟩ = some (.slice Ao66 t206.length co66) ∧ w'.cell? ⟨gb187, 0, none⟩ = some (.int .i64 a0_0) ∧ w'.cell? ⟨gb187, 1, none⟩ = some (.slice A0_1 l0_1.length c0_1)) (ds := []) #[false, false, false, false, false] (by kernel_rfl) rfl rfl ⟨(blk_cell BK209.out 0).trans rfl, (blk_cell BK209.out 1).trans rfl, (blk_cell BK187.out 0).trans rfl, (blk_cell BK187.out 1).trans rfl⟩ (fun hHeld => ?_)
        generalize w89.drew = w90 at HO194 HO198 HO202 HO208 HO213 HO218 BK187 BK188 BK204 BK209 BK214 BK220 HB hHeld ⊢
        refine take_ (i := 0) (N := some 54) (v := ?_) (a' := ?_) #[true, false, false, false, false] rfl rfl (by kernel_rfl) (fun _ _ _ h => h) (Or.inl ⟨by rfl, ?_⟩) hHeld ?_ ?_
        rotate_left
        ·rintro w' ⟨s0, s1, s2, s3⟩
         go_simp
         with_reducible rfl
        rotate_left
        ·simp only [Act.put, List.setIfInBounds_toArray, List.set_cons_zero, List.set_cons_succ, i64_w, i32_w]
         rfl
        refine take_ (i := 1) (N := some 55) (v := ?_) (a' := ?_) #[true, true, false, false, false] rfl rfl (by kernel_rfl) (fun _ _ _ h => h) (Or.inl ⟨by rfl, ?_⟩) hHeld ?_ ?_
        rotate_left
        ·rintro w' ⟨s0, s1, s2, s3⟩
         go_simp
         with_reducible rfl
        rotate_left
        ·simp only [Act.put, List.setIfInBounds_toArray, List.set_cons_zero, List.set_cons_succ, i64_w, i32_w]
         rfl
        refine one_ (i := 2) (N := some 56) #[true, true, true, false, false] rfl rfl (by kernel_rfl) (by decide) (fun K hK => ?_)
        refine goes_ Try.func24 (by kernel_rfl) rfl #[.agg #[.int .i64 a0_0, .slice A0_1 l0_1.length c0_1]] (by rfl) rfl rfl (by (try simp only [List.map_toArray, List.map_cons, List.map_nil]); first | done | rfl | (simp only [List.length_drop, List.length_take]; rfl)) ?_
        with_reducible refine (laws_toBits.calls k a0_0 _ _ l0_1 t222 t223 _ ?side1 ?side2 A16.out).mono ?_
        (case side1 => repeat (first | exact (Kd.C_below HR0_1.out HB.out) | (with_reducible refine Kd.C_alloc ?_ _) | (with_reducible refine Kd.C_drewN ?_ _) | (with_reducible refine Kd.C_drew ?_)))
        (case side2 => exact HC0_1.out)
        rintro e w91 ⟨v224, rfl, ho0, hb⟩
        refine ⟨_, rfl, ?_⟩
        have n0_ := qm_ (Kd.R_elder' (by (with_reducible repeat (first | apply qa_ | apply qn_ | apply qd_)); exact HO194.out) (Kd.R_base ho0) hb)
        have n1_ := qm_ (Kd.R_elder' (by (with_reducible repeat (first | apply qa_ | apply qn_ | apply qd_)); exact HO198.out) (Kd.R_base ho0) hb)
        have n2_ := qm_ (Kd.R_elder' (by (with_reducible repeat (first | apply qa_ | apply qn_ | apply qd_)); exact HO202.out) (Kd.R_base ho0) hb)
        have n3_ := qm_ (Kd.R_elder' (by (with_reducible repeat (first | apply qa_ | apply qn_ | apply qd_)); exact HO208.out) (Kd.R_base ho0) hb)
        have n4_ := qm_ (Kd.R_elder' (by (with_reducible repeat (first | apply qa_ | apply qn_ | apply qd_)); exact HO213.out) (Kd.R_base ho0) hb)
        have n5_ := qm_ (Kd.R_elder' (by (with_reducible repeat (first | apply qa_ | apply qn_ | apply qd_)); exact HO218.out) (Kd.R_base ho0) hb)
        have n6_ := qm_ (ql_ (qe_ (qe_ (qe_ (qe_ (qe_ (qe_ ho0 (qt_ (by (with_reducible repeat (first | apply qa_ | apply qn_ | apply qd_)); exact HO194.out))) (qt_ (by (with_reducible repeat (first | apply qa_ | apply qn_ | apply qd_)); exact HO198.out))) (qt_ (by (with_reducible repeat (first | apply qa_ | apply qn_ | apply qd_)); exact HO202.out))) (qt_ (by (with_reducible repeat (first | apply qa_ | apply qn_ | apply qd_)); exact HO208.out))) (qt_ (by (with_reducible repeat (first | apply qa_ | apply qn_ | apply qd_)); exact HO213.out))) (qt_ (by (with_reducible repeat (first | apply qa_ | apply qn_ | apply qd_)); exact HO218.out))) (qz_ (by repeat (first | (with_reducible first | exact HB.out | apply qc_ | apply qx_ | apply qf_ | refine qg_ ?_ GE187.out | refine qg_ ?_ GE188.out | refine qg_ ?_ GE204.out | refine qg_ ?_ GE209.out | refine qg_ ?_ GE214.out | refine qg_ ?_ GE220.out) | exact HB.out))))
        have n7_ := qm_ (qs_ (g := gb187) (o := .cells #[.int .i64 a0_0, .slice A0_1 l0_1.length c0_1] 34 (0, 0)) (by (with_reducible repeat (first | refine qu_ ?_ _ | refine qv_ ?_ | refine qw_ ?_ _)); exact BK187.out) hb)
        have n8_ := qm_ (qs_ (g := gb188) (o := .cells #[.int .i64 a1_0, .slice A1_1 l1_1.length c1_1] 34 (0, 0)) (by (with_reducible repeat (first | refine qu_ ?_ _ | refine qv_ ?_ | refine qw_ ?_ _)); exact BK188.out) hb)
        have n9_ := qm_ (qs_ (g := gb204) (o := .cells #[.int .i64 t199, .slice Ao88 t200.length co88] 24 (0, 0)) (by (with_reducible repeat (first | refine qu_ ?_ _ | refine qv_ ?_ | refine qw_ ?_ _)); exact BK204.out) hb)
        have n10_ := qm_ (qs_ (g := gb209) (o := .cells #[.int .i64 t205, .slice Ao66 t206.length co66] 24 (0, 0)) (by (with_reducible repeat (first | refine qu_ ?_ _ | refine qv_ ?_ | refine qw_ ?_ _)); exact BK209.out) hb)
        have n11_ := qm_ (qs_ (g := gb214) (o := .cells #[.int .i64 t210, .slice Ao76 t211.length co76] 24 (0, 0)) (by (with_reducible repeat (first | refine qu_ ?_ _ | refine qv_ ?_ | refine qw_ ?_ _)); exact BK214.out) hb)
        have n12_ := qm_ (qs_ (g := gb220) (o := .cells #[.int .i64 t215, .slice Ao86 t216.length co86] 24 (0, 0)) (by (with_reducible repeat (first | refine qu_ ?_ _ | refine qv_ ?_ | refine qw_ ?_ _)); exact BK220.out) hb)
        have n13_ := qm_ (qh_ (by repeat (first | (with_reducible first | exact HB.out | apply qc_ | apply qx_ | apply qf_ | refine qg_ ?_ GE187.out | refine qg_ ?_ GE188.out | refine qg_ ?_ GE204.out | refine qg_ ?_ GE209.out | refine qg_ ?_ GE214.out | refine qg_ ?_ GE220.out) | exact HB.out)) hb)
        clear HO194
        clear HO198
        clear HO202
        clear HO208
        clear HO213
        clear HO218
        clear BK187
        clear BK188
        clear BK204
        clear BK209
        clear BK214
        clear BK220
        clear HB
        have HO194 := n0_
        have HO198 := n1_
        have HO202 := n2_
        have HO208 := n3_
        have HO213 := n4_
        have HO218 := n5_
        have HO225 := n6_
        have BK187 := n7_
        have BK188 := n8_
        have BK204 := n9_
        have BK209 := n10_
        have BK214 := n11_
        have BK220 := n12_
        have HB := n13_
        clear n0_ n1_ n2_ n3_ n4_ n5_ n6_ n7_ n8_ n9_ n10_ n11_ n12_ n13_
        (try clear hb)
        (try clear hb2)
        (try clear hk)
        (try clear hi)
        (try clear ho0)
        obtain ⟨Ao92, co92, eo92⟩ := Kd.R_slice HO225.out
        (first | subst eo92 | (injection eo92 with f1_ f2_ f3_; have f4_ := f1_.symm; have f5_ := f3_.symm; clear f1_ f2_ f3_; subst f4_; subst f5_))
        refine hK.out _ _ ⟨(blk_cell BK209.out 0).trans rfl, (blk_cell BK209.out 1).trans rfl, (blk_cell BK187.out 0).trans rfl, (blk_cell BK187.out 1).trans rfl⟩ (fun hHeld => ?_)
        clear hK K
        refine norm_ (a' := ?_) ?_ ?_
        rotate_left
        ·show Act.put _ (some 56) _ = _
         simp only [Act.put, List.setIfInBounds_toArray, List.set_cons_zero, List.set_cons_succ, i64_w, i32_w]
         rfl
        refine one_ (i := 3) (N := some 57) #[true, true, true, true, false] rfl rfl (by kernel_rfl) (by decide) (fun K hK => ?_)
        refine goes_ Try.func15 (by kernel_rfl) rfl #[.agg #[.int .i64 t205, .slice Ao66 t206.length co66], .agg #[.int .i64 t222, .slice Ao92 t223.length co92]] (by rfl) rfl rfl (by (try simp only [List.map_toArray, List.map_cons, List.map_nil]); first | done | rfl | (simp only [List.length_drop, List.length_take]; rfl)) ?_
        with_reducible refine (laws_eqBits.calls k t205 _ _ t206 t222 _ _ t223 true _ ?side1 ?side2 ?side3 ?side4 A17.out).mono ?_
        (case side1 => repeat (first | exact (Kd.R_reads' HO208.out).2.2 | (with_reducible refine Kd.C_alloc ?_ _) | (with_reducible refine Kd.C_drewN ?_ _) | (with_reducible refine Kd.C_drew ?_)))
        (case side2 => exact (Kd.R_reads' HO208.out).2.1)
        (case side3 => repeat (first | exact (Kd.R_reads' HO225.out).2.2 | (with_reducible refine Kd.C_alloc ?_ _) | (with_reducible refine Kd.C_drewN ?_ _) | (with_reducible refine Kd.C_drew ?_)))
        (case side4 => exact (Kd.R_reads' HO225.out).2.1)
        rintro e w93 ⟨rfl, hb⟩
        refine ⟨_, rfl, ?_⟩
        have n0_ := qm_ (qb_ (by (with_reducible repeat (first | apply qa_ | apply qn_ | apply qd_)); exact HO194.out) hb)
        have n1_ := qm_ (qb_ (by (with_reducible repeat (first | apply qa_ | apply qn_ | apply qd_)); exact HO198.out) hb)
        have n2_ := qm_ (qb_ (by (with_reducible repeat (first | apply qa_ | apply qn_ | apply qd_)); exact HO202.out) hb)
        have n3_ := qm_ (qb_ (by (with_reducible repeat (first | apply qa_ | apply qn_ | apply qd_)); exact HO208.out) hb)
        have n4_ := qm_ (qb_ (by (with_reducible repeat (first | apply qa_ | apply qn_ | apply qd_)); exact HO213.out) hb)
        have n5_ := qm_ (qb_ (by (with_reducible repeat (first | apply qa_ | apply qn_ | apply qd_)); exact HO218.out) hb)
        have n6_ := qm_ (qb_ (by (with_reducible repeat (first | apply qa_ | apply qn_ | apply qd_)); exact HO225.out) hb)
        have n7_ := qm_ (qs_ (g := gb187) (o := .cells #[.int .i64 a0_0, .slice A0_1 l0_1.length c0_1] 34 (0, 0)) (by (with_reducible repeat (first | refine qu_ ?_ _ | refine qv_ ?_ | refine qw_ ?_ _)); exact BK187.out) hb)
        have n8_ := qm_ (qs_ (g := gb188) (o := .cells #[.int .i64 a1_0, .slice A1_1 l1_1.length c1_1] 34 (0, 0)) (by (with_reducible repeat (first | refine qu_ ?_ _ | refine qv_ ?_ | refine qw_ ?_ _)); exact BK188.out) hb)
        have n9_ := qm_ (qs_ (g := gb204) (o := .cells #[.int .i64 t199, .slice Ao88 t200.length co88] 24 (0, 0)) (by (with_reducible repeat (first | refine qu_ ?_ _ | refine qv_ ?_ | refine qw_ ?_ _)); exact BK204.out) hb)
        have n10_ := qm_ (qs_ (g := gb209) (o := .cells #[.int .i64 t205, .slice Ao66 t206.length co66] 24 (0, 0)) (by (with_reducible repeat (first | refine qu_ ?_ _ | refine qv_ ?_ | refine qw_ ?_ _)); exact BK209.out) hb)
        have n11_ := qm_ (qs_ (g := gb214) (o := .cells #[.int .i64 t210, .slice Ao76 t211.length co76] 24 (0, 0)) (by (with_reducible repeat (first | refine qu_ ?_ _ | refine qv_ ?_ | refine qw_ ?_ _)); exact BK214.out) hb)
        have n12_ := qm_ (qs_ (g := gb220) (o := .cells #[.int .i64 t215, .slice Ao86 t216.length co86] 24 (0, 0)) (by (with_reducible repeat (first | refine qu_ ?_ _ | refine qv_ ?_ | refine qw_ ?_ _)); exact BK220.out) hb)
        have n13_ := qm_ (qh_ (by repeat (first | (with_reducible first | exact HB.out | apply qc_ | apply qx_ | apply qf_ | refine qg_ ?_ GE187.out | refine qg_ ?_ GE188.out | refine qg_ ?_ GE204.out | refine qg_ ?_ GE209.out | refine qg_ ?_ GE214.out | refine qg_ ?_ GE220.out) | exact HB.out)) hb)
        clear HO194
        clear HO198
        clear HO202
        clear HO208
        clear HO213
        clear HO218
        clear HO225
        clear BK187
        clear BK188
        clear BK204
        clear BK209
        clear BK214
        clear BK220
        clear HB
        have HO194 := n0_
        have HO198 := n1_
        have HO202 := n2_
        have HO208 := n3_
        have HO213 := n4_
        have HO218 := n5_
        have HO225 := n6_
        have BK187 := n7_
        have BK188 := n8_
        have BK204 := n9_
        have BK209 := n10_
        have BK214 := n11_
        have BK220 := n12_
        have HB := n13_
        clear n0_ n1_ n2_ n3_ n4_ n5_ n6_ n7_ n8_ n9_ n10_ n11_ n12_ n13_
        (try clear hb)
        (try clear hb2)
        (try clear hk)
        (try clear hi)
        refine hK.out _ _ ⟨(blk_cell BK209.out 0).trans rfl, (blk_cell BK209.out 1).trans rfl, (blk_cell BK187.out 0).trans rfl, (blk_cell BK187.out 1).trans rfl⟩ (fun hHeld => ?_)
        clear hK K
        refine norm_ (a' := ?_) ?_ ?_
        rotate_left
        ·show Act.put _ (some 57) _ = _
         simp only [Act.put, List.setIfInBounds_toArray, List.set_cons_zero, List.set_cons_succ, i64_w, i32_w]
         rfl
        refine pure_ (i := 4) (N := some 58) (v := ?_) (a' := ?_) #[true, true, true, true, true] rfl rfl (by kernel_rfl) (fun _ _ _ h => h) (Or.inl ⟨by rfl, ?_⟩) ?_ ?_
        rotate_left
        ·intro w'
         go_simp
         with_reducible rfl
        rotate_left
        ·simp only [Act.put, List.setIfInBounds_toArray, List.set_cons_zero, List.set_cons_succ, i64_w, i32_w]
         rfl
        refine done_ (by kernel_rfl) ?_
        try go_wp2
        have n0_ := qm_ (qd_ HO194.out)
        have n1_ := qm_ (qd_ HO198.out)
        have n2_ := qm_ (qd_ HO202.out)
        have n3_ := qm_ (qd_ HO208.out)
        have n4_ := qm_ (qd_ HO213.out)
        have n5_ := qm_ (qd_ HO218.out)
        have n6_ := qm_ (qd_ HO225.out)
        have n7_ := qm_ (qv_ BK187.out)
        have n8_ := qm_ (qv_ BK188.out)
        have n9_ := qm_ (qv_ BK204.out)
        have n10_ := qm_ (qv_ BK209.out)
        have n11_ := qm_ (qv_ BK214.out)
        have n12_ := qm_ (qv_ BK220.out)
        have n13_ := qm_ (qf_ HB.out)
        clear HO194
        clear HO198
        clear HO202
        clear HO208
        clear HO213
        clear HO218
        clear HO225
        clear BK187
        clear BK188
        clear BK204
        clear BK209
        clear BK214
        clear BK220
        clear HB
        have HO194 := n0_
        have HO198 := n1_
        have HO202 := n2_
        have HO208 := n3_
        have HO213 := n4_
        have HO218 := n5_
        have HO225 := n6_
        have BK187 := n7_
        have BK188 := n8_
        have BK204 := n9_
        have BK209 := n10_
        have BK214 := n11_
        have BK220 := n12_
        have HB := n13_
        clear n0_ n1_ n2_ n3_ n4_ n5_ n6_ n7_ n8_ n9_ n10_ n11_ n12_ n13_
        refine start_ (n := 5) (S := fun w' => w'.cell? ⟨gb214, 0, none⟩ = some (.int .i64 t210) ∧ w'.cell? ⟨gb214, 1, none⟩ = some (.slice Ao76 t211.length co76) ∧ w'.cell? ⟨gb188, 0, none⟩ = some (.int .i64 a1_0) ∧ w'.cell? ⟨gb188, 1, none⟩ = some (.slice A1_1 l1_1.length c1_1)) (ds := []) #[false, false, false, false, false] (by kernel_rfl) rfl rfl ⟨(blk_cell BK214.out 0).trans rfl, (blk_cell BK214.out 1).trans rfl, (blk_cell BK188.out 0).trans rfl, (blk_cell BK188.out 1).trans rfl⟩ (fun hHeld => ?_)
        generalize w93.drew = w94 at HO194 HO198 HO202 HO208 HO213 HO218 HO225 BK187 BK188 BK204 BK209 BK214 BK220 HB hHeld ⊢
        refine take_ (i := 0) (N := some 59) (v := ?_) (a' := ?_) #[true, false, false, false, false] rfl rfl (by kernel_rfl) (fun _ _ _ h => h) (Or.inl ⟨by rfl, ?_⟩) hHeld ?_ ?_
        rotate_left
        ·rintro w' ⟨s0, s1, s2, s3⟩
         go_simp
         with_reducible rfl
        rotate_left
        ·simp only [Act.put, List.setIfInBounds_toArray, List.set_cons_zero, List.set_cons_succ, i64_w, i32_w]
         rfl
        refine take_ (i := 1) (N := some 60) (v := ?_) (a' := ?_) #[true, true, false, false, false] rfl rfl (by kernel_rfl) (fun _ _ _ h => h) (Or.inl ⟨by rfl, ?_⟩) hHeld ?_ ?_
        rotate_left
        ·rintro w' ⟨s0, s1, s2, s3⟩
         go_simp
         with_reducible rfl
        rotate_left
        ·simp only [Act.put, List.setIfInBounds_toArray, List.set_cons_zero, List.set_cons_succ, i64_w, i32_w]
         rfl
        refine one_ (i := 2) (N := some 61) #[true, true, true, false, false] rfl rfl (by kernel_rfl) (by decide) (fun K hK => ?_)
        refine goes_ Try.func24 (by kernel_rfl) rfl #[.agg #[.int .i64 a1_0, .slice A1_1 l1_1.length c1_1]] (by rfl) rfl rfl (by (try simp only [List.map_toArray, List.map_cons, List.map_nil]); first | done | rfl | (simp only [List.length_drop, List.length_take]; rfl)) ?_
        with_reducible refine (laws_toBits.calls k a1_0 _ _ l1_1 t227 t228 _ ?side1 ?side2 A19.out).mono ?_
        (case side1 => repeat (first | exact (Kd.C_below HR1_1.out HB.out) | (with_reducible refine Kd.C_alloc ?_ _) | (with_reducible refine Kd.C_drewN ?_ _) | (with_reducible refine Kd.C_drew ?_)))
        (case side2 => exact HC1_1.out)
        rintro e w95 ⟨v229, rfl, ho0, hb⟩
        refine ⟨_, rfl, ?_⟩
        have n0_ := qm_ (Kd.R_elder' (by (with_reducible repeat (first | apply qa_ | apply qn_ | apply qd_)); exact HO194.out) (Kd.R_base ho0) hb)
        have n1_ := qm_ (Kd.R_elder' (by (with_reducible repeat (first | apply qa_ | apply qn_ | apply qd_)); exact HO198.out) (Kd.R_base ho0) hb)
        have n2_ := qm_ (Kd.R_elder' (by (with_reducible repeat (first | apply qa_ | apply qn_ | apply qd_)); exact HO202.out) (Kd.R_base ho0) hb)
        have n3_ := qm_ (Kd.R_elder' (by (with_reducible repeat (first | apply qa_ | apply qn_ | apply qd_)); exact HO208.out) (Kd.R_base ho0) hb)
        have n4_ := qm_ (Kd.R_elder' (by (with_reducible repeat (first | apply qa_ | apply qn_ | apply qd_)); exact HO213.out) (Kd.R_base ho0) hb)
        have n5_ := qm_ (Kd.R_elder' (by (with_reducible repeat (first | apply qa_ | apply qn_ | apply qd_)); exact HO218.out) (Kd.R_base ho0) hb)
        have n6_ := qm_ (Kd.R_elder' (by (with_reducible repeat (first | apply qa_ | apply qn_ | apply qd_)); exact HO225.out) (Kd.R_base ho0) hb)
        have n7_ := qm_ (ql_ (qe_ (qe_ (qe_ (qe_ (qe_ (qe_ (qe_ ho0 (qt_ (by (with_reducible repeat (first | apply qa_ | apply qn_ | apply qd_)); exact HO194.out))) (qt_ (by (with_reducible repeat (first | apply qa_ | apply qn_ | apply qd_)); exact HO198.out))) (qt_ (by (with_reducible repeat (first | apply qa_ | apply qn_ | apply qd_)); exact HO202.out))) (qt_ (by (with_reducible repeat (first | apply qa_ | apply qn_ | apply qd_)); exact HO208.out))) (qt_ (by (with_reducible repeat (first | apply qa_ | apply qn_ | apply qd_)); exact HO213.out))) (qt_ (by (with_reducible repeat (first | apply qa_ | apply qn_ | apply qd_)); exact HO218.out))) (qt_ (by (with_reducible repeat (first | apply qa_ | apply qn_ | apply qd_)); exact HO225.out))) (qz_ (by repeat (first | (with_reducible first | exact HB.out | apply qc_ | apply qx_ | apply qf_ | refine qg_ ?_ GE187.out | refine qg_ ?_ GE188.out | refine qg_ ?_ GE204.out | refine qg_ ?_ GE209.out | refine qg_ ?_ GE214.out | refine qg_ ?_ GE220.out) | exact HB.out))))
        have n8_ := qm_ (qs_ (g := gb187) (o := .cells #[.int .i64 a0_0, .slice A0_1 l0_1.length c0_1] 34 (0, 0)) (by (with_reducible repeat (first | refine qu_ ?_ _ | refine qv_ ?_ | refine qw_ ?_ _)); exact BK187.out) hb)
        have n9_ := qm_ (qs_ (g := gb188) (o := .cells #[.int .i64 a1_0, .slice A1_1 l1_1.length c1_1] 34 (0, 0)) (by (with_reducible repeat (first | refine qu_ ?_ _ | refine qv_ ?_ | refine qw_ ?_ _)); exact BK188.out) hb)
        have n10_ := qm_ (qs_ (g := gb204) (o := .cells #[.int .i64 t199, .slice Ao88 t200.length co88] 24 (0, 0)) (by (with_reducible repeat (first | refine qu_ ?_ _ | refine qv_ ?_ | refine qw_ ?_ _)); exact BK204.out) hb)
        have n11_ := qm_ (qs_ (g := gb209) (o := .cells #[.int .i64 t205, .slice Ao66 t206.length co66] 24 (0, 0)) (by (with_reducible repeat (first | refine qu_ ?_ _ | refine qv_ ?_ | refine qw_ ?_ _)); exact BK209.out) hb)
        have n12_ := qm_ (qs_ (g := gb214) (o := .cells #[.int .i64 t210, .slice Ao76 t211.length co76] 24 (0, 0)) (by (with_reducible repeat (first | refine qu_ ?_ _ | refine qv_ ?_ | refine qw_ ?_ _)); exact BK214.out) hb)
        have n13_ := qm_ (qs_ (g := gb220) (o := .cells #[.int .i64 t215, .slice Ao86 t216.length co86] 24 (0, 0)) (by (with_reducible repeat (first | refine qu_ ?_ _ | refine qv_ ?_ | refine qw_ ?_ _)); exact BK220.out) hb)
        have n14_ := qm_ (qh_ (by repeat (first | (with_reducible first | exact HB.out | apply qc_ | apply qx_ | apply qf_ | refine qg_ ?_ GE187.out | refine qg_ ?_ GE188.out | refine qg_ ?_ GE204.out | refine qg_ ?_ GE209.out | refine qg_ ?_ GE214.out | refine qg_ ?_ GE220.out) | exact HB.out)) hb)
        clear HO194
        clear HO198
        clear HO202
        clear HO208
        clear HO213
        clear HO218
        clear HO225
        clear BK187
        clear BK188
        clear BK204
        clear BK209
        clear BK214
        clear BK220
        clear HB
        have HO194 := n0_
        have HO198 := n1_
        have HO202 := n2_
        have HO208 := n3_
        have HO213 := n4_
        have HO218 := n5_
        have HO225 := n6_
        have HO230 := n7_
        have BK187 := n8_
        have BK188 := n9_
        have BK204 := n10_
        have BK209 := n11_
        have BK214 := n12_
        have BK220 := n13_
        have HB := n14_
        clear n0_ n1_ n2_ n3_ n4_ n5_ n6_ n7_ n8_ n9_ n10_ n11_ n12_ n13_ n14_
        (try clear hb)
        (try clear hb2)
        (try clear hk)
        (try clear hi)
        (try clear ho0)
        obtain ⟨Ao96, co96, eo96⟩ := Kd.R_slice HO230.out
        (first | subst eo96 | (injection eo96 with f1_ f2_ f3_; have f4_ := f1_.symm; have f5_ := f3_.symm; clear f1_ f2_ f3_; subst f4_; subst f5_))
        refine hK.out _ _ ⟨(blk_cell BK214.out 0).trans rfl, (blk_cell BK214.out 1).trans rfl, (blk_cell BK188.out 0).trans rfl, (blk_cell BK188.out 1).trans rfl⟩ (fun hHeld => ?_)
        clear hK K
        refine norm_ (a' := ?_) ?_ ?_
        rotate_left
        ·show Act.put _ (some 61) _ = _
         simp only [Act.put, List.setIfInBounds_toArray, List.set_cons_zero, List.set_cons_succ, i64_w, i32_w]
         rfl
        refine one_ (i := 3) (N := some 62) #[true, true, true, true, false] rfl rfl (by kernel_rfl) (by decide) (fun K hK => ?_)
        refine goes_ Try.func15 (by kernel_rfl) rfl #[.agg #[.int .i64 t210, .slice Ao76 t211.length co76], .agg #[.int .i64 t227, .slice Ao96 t228.length co96]] (by rfl) rfl rfl (by (try simp only [List.map_toArray, List.map_cons, List.map_nil]); first | done | rfl | (simp only [List.length_drop, List.length_take]; rfl)) ?_
        with_reducible refine (laws_eqBits.calls k t210 _ _ t211 t227 _ _ t228 true _ ?side1 ?side2 ?side3 ?side4 A20.out).mono ?_
        (case side1 => repeat (first | exact (Kd.R_reads' HO213.out).2.2 | (with_reducible refine Kd.C_alloc ?_ _) | (with_reducible refine Kd.C_drewN ?_ _) | (with_reducible refine Kd.C_drew ?_)))
        (case side2 => exact (Kd.R_reads' HO213.out).2.1)
        (case side3 => repeat (first | exact (Kd.R_reads' HO230.out).2.2 | (with_reducible refine Kd.C_alloc ?_ _) | (with_reducible refine Kd.C_drewN ?_ _) | (with_reducible refine Kd.C_drew ?_)))
        (case side4 => exact (Kd.R_reads' HO230.out).2.1)
        rintro e w97 ⟨rfl, hb⟩
        refine ⟨_, rfl, ?_⟩
        have n0_ := qm_ (qb_ (by (with_reducible repeat (first | apply qa_ | apply qn_ | apply qd_)); exact HO194.out) hb)
        have n1_ := qm_ (qb_ (by (with_reducible repeat (first | apply qa_ | apply qn_ | apply qd_)); exact HO198.out) hb)
        have n2_ := qm_ (qb_ (by (with_reducible repeat (first | apply qa_ | apply qn_ | apply qd_)); exact HO202.out) hb)
        have n3_ := qm_ (qb_ (by (with_reducible repeat (first | apply qa_ | apply qn_ | apply qd_)); exact HO208.out) hb)
        have n4_ := qm_ (qb_ (by (with_reducible repeat (first | apply qa_ | apply qn_ | apply qd_)); exact HO213.out) hb)
        have n5_ := qm_ (qb_ (by (with_reducible repeat (first | apply qa_ | apply qn_ | apply qd_)); exact HO218.out) hb)
        have n6_ := qm_ (qb_ (by (with_reducible repeat (first | apply qa_ | apply qn_ | apply qd_)); exact HO225.out) hb)
        have n7_ := qm_ (qb_ (by (with_reducible repeat (first | apply qa_ | apply qn_ | apply qd_)); exact HO230.out) hb)
        have n8_ := qm_ (qs_ (g := gb187) (o := .cells #[.int .i64 a0_0, .slice A0_1 l0_1.length c0_1] 34 (0, 0)) (by (with_reducible repeat (first | refine qu_ ?_ _ | refine qv_ ?_ | refine qw_ ?_ _)); exact BK187.out) hb)
        have n9_ := qm_ (qs_ (g := gb188) (o := .cells #[.int .i64 a1_0, .slice A1_1 l1_1.length c1_1] 34 (0, 0)) (by (with_reducible repeat (first | refine qu_ ?_ _ | refine qv_ ?_ | refine qw_ ?_ _)); exact BK188.out) hb)
        have n10_ := qm_ (qs_ (g := gb204) (o := .cells #[.int .i64 t199, .slice Ao88 t200.length co88] 24 (0, 0)) (by (with_reducible repeat (first | refine qu_ ?_ _ | refine qv_ ?_ | refine qw_ ?_ _)); exact BK204.out) hb)
        have n11_ := qm_ (qs_ (g := gb209) (o := .cells #[.int .i64 t205, .slice Ao66 t206.length co66] 24 (0, 0)) (by (with_reducible repeat (first | refine qu_ ?_ _ | refine qv_ ?_ | refine qw_ ?_ _)); exact BK209.out) hb)
        have n12_ := qm_ (qs_ (g := gb214) (o := .cells #[.int .i64 t210, .slice Ao76 t211.length co76] 24 (0, 0)) (by (with_reducible repeat (first | refine qu_ ?_ _ | refine qv_ ?_ | refine qw_ ?_ _)); exact BK214.out) hb)
        have n13_ := qm_ (qs_ (g := gb220) (o := .cells #[.int .i64 t215, .slice Ao86 t216.length co86] 24 (0, 0)) (by (with_reducible repeat (first | refine qu_ ?_ _ | refine qv_ ?_ | refine qw_ ?_ _)); exact BK220.out) hb)
        have n14_ := qm_ (qh_ (by repeat (first | (with_reducible first | exact HB.out | apply qc_ | apply qx_ | apply qf_ | refine qg_ ?_ GE187.out | refine qg_ ?_ GE188.out | refine qg_ ?_ GE204.out | refine qg_ ?_ GE209.out | refine qg_ ?_ GE214.out | refine qg_ ?_ GE220.out) | exact HB.out)) hb)
        clear HO194
        clear HO198
        clear HO202
        clear HO208
        clear HO213
        clear HO218
        clear HO225
        clear HO230
        clear BK187
        clear BK188
        clear BK204
        clear BK209
        clear BK214
        clear BK220
        clear HB
        have HO194 := n0_
        have HO198 := n1_
        have HO202 := n2_
        have HO208 := n3_
        have HO213 := n4_
        have HO218 := n5_
        have HO225 := n6_
        have HO230 := n7_
        have BK187 := n8_
        have BK188 := n9_
        have BK204 := n10_
        have BK209 := n11_
        have BK214 := n12_
        have BK220 := n13_
        have HB := n14_
        clear n0_ n1_ n2_ n3_ n4_ n5_ n6_ n7_ n8_ n9_ n10_ n11_ n12_ n13_ n14_
        (try clear hb)
        (try clear hb2)
        (try clear hk)
        (try clear hi)
        refine hK.out _ _ ⟨(blk_cell BK214.out 0).trans rfl, (blk_cell BK214.out 1).trans rfl, (blk_cell BK188.out 0).trans rfl, (blk_cell BK188.out 1).trans rfl⟩ (fun hHeld => ?_)
        clear hK K
        refine norm_ (a' := ?_) ?_ ?_
        rotate_left
        ·show Act.put _ (some 62) _ = _
         simp only [Act.put, List.setIfInBounds_toArray, List.set_cons_zero, List.set_cons_succ, i64_w, i32_w]
         rfl
        refine pure_ (i := 4) (N := some 63) (v := ?_) (a' := ?_) #[true, true, true, true, true] rfl rfl (by kernel_rfl) (fun _ _ _ h => h) (Or.inl ⟨by rfl, ?_⟩) ?_ ?_
        rotate_left
        ·intro w'
         go_simp
         with_reducible rfl
        rotate_left
        ·simp only [Act.put, List.setIfInBounds_toArray, List.set_cons_zero, List.set_cons_succ, i64_w, i32_w]
         rfl
        refine done_ (by kernel_rfl) ?_
        have hcz98_0 : w97.cell? ⟨gb209, 0, none⟩ = some (.int .i64 t205) := (blk_cell BK209.out 0).trans rfl
        have hcz98_1 : w97.cell? ⟨gb209, 1, none⟩ = some (.slice Ao66 t206.length co66) := (blk_cell BK209.out 1).trans rfl
        have hfz98_0 := blk_frozen BK209.out 0
        have hfz98_1 := blk_frozen BK209.out 1
        try go_wp2_with (first | ((with_reducible refine gate_callee (f := 16) rfl ?_); refine goesL_ (some 66) rfl rfl Try.func16 (by kernel_rfl) rfl #[.agg #[.int .i64 t205, .slice Ao66 t206.length co66], .int .i64 1] rfl (by (try simp only [List.map_toArray, List.map_cons, List.map_nil]); first | done | rfl | (simp only [List.length_drop, List.length_take]; rfl)) ?_; (with_reducible refine (laws_markBits.calls k t205 (fun k_ => some k_ = (.slice Ao66 t206.length co66 : Value).ownBlock) (.slice Ao66 t206.length co66) t206 1 t232 t233 w _ ?side1 ?side2 A22.out).mono ?_); (case side1 => repeat (first | (with_reducible first | exact HB.out | apply qc_ | apply qx_ | apply qf_ | refine qg_ ?_ GE187.out | refine qg_ ?_ GE188.out | refine qg_ ?_ GE204.out | refine qg_ ?_ GE209.out | refine qg_ ?_ GE214.out | refine qg_ ?_ GE220.out) | exact HB.out)); (case side2 => exact Kd.R_tight rfl HO208.out); rintro e w99 ⟨rfl, hy0, hb, hkp⟩; refine ⟨_, rfl, ?_⟩; have n0_ := qm_ (blk_kept (by (with_reducible repeat (first | refine qu_ ?_ _ | refine qv_ ?_ | refine qw_ ?_ _)); exact BK187.out) hkp (fun hs_ => (fun e_ => (Kd.R_ne HO208.out BK187.out (by decide)) e_) hs_)); have n1_ := qm_ (blk_kept (by (with_reducible repeat (first | refine qu_ ?_ _ | refine qv_ ?_ | refine qw_ ?_ _)); exact BK188.out) hkp (fun hs_ => (fun e_ => (Kd.R_ne HO208.out BK188.out (by decide)) e_) hs_)); have n2_ := qm_ (Kd.R_mono (ok' := fun k_ => some k_ ≠ (.slice Ao66 t206.length co66 : Value).ownBlock ∧ some k_ ≠ (.slice Ao76 t211.length co76 : Value).ownBlock ∧ some k_ ≠ (.slice Ao86 t216.length co86 : Value).ownBlock ∧ some k_ ≠ (.slice Ao92 t223.length co92 : Value).ownBlock ∧ some k_ ≠ (.slice Ao96 t228.length co96 : Value).ownBlock) (Kd.R_keptB (HO194.out) hkp (fun k_ hk_ hs_ => (hk_.1.1.1.1.2) hs_)) (fun k_ hk_ => ⟨hk_.1.1.1.1.1.2, hk_.1.1.1.1.2, hk_.1.1.1.2, hk_.1.1.2, hk_.1.2⟩)); have n3_ := qm_ (Kd.R_mono (ok' := fun k_ => some k_ ≠ (.slice Ao66 t206.length co66 : Value).ownBlock ∧ some k_ ≠ (.slice Ao76 t211.length co76 : Value).ownBlock ∧ some k_ ≠ (.slice Ao86 t216.length co86 : Value).ownBlock ∧ some k_ ≠ (.slice Ao92 t223.length co92 : Value).ownBlock ∧ some k_ ≠ (.slice Ao96 t228.length co96 : Value).ownBlock) (Kd.R_keptB (HO198.out) hkp (fun k_ hk_ hs_ => (hk_.1.1.1.1.2) hs_)) (fun k_ hk_ => ⟨hk_.1.1.1.1.1.2, hk_.1.1.1.1.2, hk_.1.1.1.2, hk_.1.1.2, hk_.1.2⟩)); have n4_ := qm_ (Kd.R_mono (ok' := fun k_ => some k_ ≠ (.slice Ao66 t206.length co66 : Value).ownBlock ∧ some k_ ≠ (.slice Ao76 t211.length co76 : Value).ownBlock ∧ some k_ ≠ (.slice Ao86 t216.length co86 : Value).ownBlock ∧ some k_ ≠ (.slice Ao92 t223.length co92 : Value).ownBlock ∧ some k_ ≠ (.slice Ao96 t228.length co96 : Value).ownBlock) (Kd.R_keptB (HO202.out) hkp (fun k_ hk_ hs_ => (hk_.1.1.1.1.2) hs_)) (fun k_ hk_ => ⟨hk_.1.1.1.1.1.2, hk_.1.1.1.1.2, hk_.1.1.1.2, hk_.1.1.2, hk_.1.2⟩)); have n5_ := qm_ (blk_kept (by (with_reducible repeat (first | refine qu_ ?_ _ | refine qv_ ?_ | refine qw_ ?_ _)); exact BK204.out) hkp (fun hs_ => (fun e_ => (Kd.R_ne HO208.out BK204.out (by decide)) e_) hs_)); have n6_ := qm_ (Kd.R_reok rfl hy0 (fun k_ e_ => HO208.out.1 k_ e_)); have n7_ := qm_ (blk_kept (by (with_reducible repeat (first | refine qu_ ?_ _ | refine qv_ ?_ | refine qw_ ?_ _)); exact BK209.out) hkp (fun hs_ => (fun e_ => (Kd.R_ne HO208.out BK209.out (by decide)) e_) hs_)); have n8_ := qm_ (Kd.R_mono (ok' := fun k_ => some k_ ≠ (v193 : Value).ownBlock ∧ some k_ ≠ (v197 : Value).ownBlock ∧ some k_ ≠ (.slice Ao88 t200.length co88 : Value).ownBlock ∧ some k_ ≠ (.slice Ao66 t206.length co66 : Value).ownBlock ∧ some k_ ≠ (.slice Ao86 t216.length co86 : Value).ownBlock ∧ some k_ ≠ (.slice Ao92 t223.length co92 : Value).ownBlock ∧ some k_ ≠ (.slice Ao96 t228.length co96 : Value).ownBlock) (Kd.R_keptB (HO213.out) hkp (fun k_ hk_ hs_ => (hk_.1.1.1.2) hs_)) (fun k_ hk_ => ⟨hk_.1.1.1.1.1.1.1.2, hk_.1.1.1.1.1.1.2, hk_.1.1.1.1.1.2, hk_.1.1.1.1.2, hk_.1.1.1.2, hk_.1.1.2, hk_.1.2⟩)); have n9_ := qm_ (blk_kept (by (with_reducible repeat (first | refine qu_ ?_ _ | refine qv_ ?_ | refine qw_ ?_ _)); exact BK214.out) hkp (fun hs_ => (fun e_ => (Kd.R_ne HO208.out BK214.out (by decide)) e_) hs_)); have n10_ := qm_ (Kd.R_mono (ok' := fun k_ => some k_ ≠ (v193 : Value).ownBlock ∧ some k_ ≠ (v197 : Value).ownBlock ∧ some k_ ≠ (.slice Ao88 t200.length co88 : Value).ownBlock ∧ some k_ ≠ (.slice Ao66 t206.length co66 : Value).ownBlock ∧ some k_ ≠ (.slice Ao76 t211.length co76 : Value).ownBlock ∧ some k_ ≠ (.slice Ao92 t223.length co92 : Value).ownBlock ∧ some k_ ≠ (.slice Ao96 t228.length co96 : Value).ownBlock) (Kd.R_keptB (HO218.out) hkp (fun k_ hk_ hs_ => (hk_.1.1.1.2) hs_)) (fun k_ hk_ => ⟨hk_.1.1.1.1.1.1.1.2, hk_.1.1.1.1.1.1.2, hk_.1.1.1.1.1.2, hk_.1.1.1.1.2, hk_.1.1.1.2, hk_.1.1.2, hk_.1.2⟩)); have n11_ := qm_ (blk_kept (by (with_reducible repeat (first | refine qu_ ?_ _ | refine qv_ ?_ | refine qw_ ?_ _)); exact BK220.out) hkp (fun hs_ => (fun e_ => (Kd.R_ne HO208.out BK220.out (by decide)) e_) hs_)); have n12_ := qm_ (Kd.R_mono (ok' := fun k_ => some k_ ≠ (v193 : Value).ownBlock ∧ some k_ ≠ (v197 : Value).ownBlock ∧ some k_ ≠ (.slice Ao88 t200.length co88 : Value).ownBlock ∧ some k_ ≠ (.slice Ao66 t206.length co66 : Value).ownBlock ∧ some k_ ≠ (.slice Ao76 t211.length co76 : Value).ownBlock ∧ some k_ ≠ (.slice Ao86 t216.length co86 : Value).ownBlock ∧ some k_ ≠ (.slice Ao96 t228.length co96 : Value).ownBlock) (Kd.R_keptB (HO225.out) hkp (fun k_ hk_ hs_ => (hk_.1.1.1.2) hs_)) (fun k_ hk_ => ⟨hk_.1.1.1.1.1.1.1.2, hk_.1.1.1.1.1.1.2, hk_.1.1.1.1.1.2, hk_.1.1.1.1.2, hk_.1.1.1.2, hk_.1.1.2, hk_.1.2⟩)); have n13_ := qm_ (Kd.R_mono (ok' := fun k_ => some k_ ≠ (v193 : Value).ownBlock ∧ some k_ ≠ (v197 : Value).ownBlock ∧ some k_ ≠ (.slice Ao88 t200.length co88 : Value).ownBlock ∧ some k_ ≠ (.slice Ao66 t206.length co66 : Value).ownBlock ∧ some k_ ≠ (.slice Ao76 t211.length co76 : Value).ownBlock ∧ some k_ ≠ (.slice Ao86 t216.length co86 : Value).ownBlock ∧ some k_ ≠ (.slice Ao92 t223.length co92 : Value).ownBlock) (Kd.R_keptB (HO230.out) hkp (fun k_ hk_ hs_ => (hk_.1.1.1.2) hs_)) (fun k_ hk_ => ⟨hk_.1.1.1.1.1.1.1.2, hk_.1.1.1.1.1.1.2, hk_.1.1.1.1.1.2, hk_.1.1.1.1.2, hk_.1.1.1.2, hk_.1.1.2, hk_.1.2⟩)); have n14_ := qm_ (hb); clear BK187; clear BK188; clear HO194; clear HO198; clear HO202; clear BK204; clear HO208; clear BK209; clear HO213; clear BK214; clear HO218; clear BK220; clear HO225; clear HO230; clear HB; have BK187 := n0_; have BK188 := n1_; have HO194 := n2_; have HO198 := n3_; have HO202 := n4_; have BK204 := n5_; have HO208 := n6_; have BK209 := n7_; have HO213 := n8_; have BK214 := n9_; have HO218 := n10_; have BK220 := n11_; have HO225 := n12_; have HO230 := n13_; have HB := n14_; clear n0_ n1_ n2_ n3_ n4_ n5_ n6_ n7_ n8_ n9_ n10_ n11_ n12_ n13_ n14_; (try clear hb); (try clear hkp); (try clear hy0); have hcz100_0 : w99.cell? ⟨gb214, 0, none⟩ = some (.int .i64 t210) := (blk_cell BK214.out 0).trans rfl; have hcz100_1 : w99.cell? ⟨gb214, 1, none⟩ = some (.slice Ao76 t211.length co76) := (blk_cell BK214.out 1).trans rfl; have hfz100_0 := blk_frozen BK214.out 0; have hfz100_1 := blk_frozen BK214.out 1) | ((with_reducible refine gate_callee (f := 16) rfl ?_); refine goesL_ (some 69) rfl rfl Try.func16 (by kernel_rfl) rfl #[.agg #[.int .i64 t210, .slice Ao76 t211.length co76], .int .i64 t232] rfl (by (try simp only [List.map_toArray, List.map_cons, List.map_nil]); first | done | rfl | (simp only [List.length_drop, List.length_take]; rfl)) ?_; (with_reducible refine (laws_markBits.calls k t210 (fun k_ => some k_ = (.slice Ao76 t211.length co76 : Value).ownBlock) (.slice Ao76 t211.length co76) t211 t232 t234 t235 w _ ?side1 ?side2 A23.out).mono ?_); (case side1 => repeat (first | (with_reducible first | exact HB.out | apply qc_ | apply qx_ | apply qf_ | refine qg_ ?_ GE187.out | refine qg_ ?_ GE188.out | refine qg_ ?_ GE204.out | refine qg_ ?_ GE209.out | refine qg_ ?_ GE214.out | refine qg_ ?_ GE220.out) | exact HB.out)); (case side2 => exact Kd.R_tight rfl HO213.out); rintro e w101 ⟨rfl, hy0, hb, hkp⟩; refine ⟨_, rfl, ?_⟩; have n0_ := qm_ (blk_kept (by (with_reducible repeat (first | refine qu_ ?_ _ | refine qv_ ?_ | refine qw_ ?_ _)); exact BK187.out) hkp (fun hs_ => (fun e_ => (Kd.R_ne HO213.out BK187.out (by decide)) e_) hs_)); have n1_ := qm_ (blk_kept (by (with_reducible repeat (first | refine qu_ ?_ _ | refine qv_ ?_ | refine qw_ ?_ _)); exact BK188.out) hkp (fun hs_ => (fun e_ => (Kd.R_ne HO213.out BK188.out (by decide)) e_) hs_)); have n2_ := qm_ (Kd.R_mono (ok' := fun k_ => some k_ ≠ (.slice Ao66 t206.length co66 : Value).ownBlock ∧ some k_ ≠ (.slice Ao76 t211.length co76 : Value).ownBlock ∧ some k_ ≠ (.slice Ao86 t216.length co86 : Value).ownBlock ∧ some k_ ≠ (.slice Ao92 t223.length co92 : Value).ownBlock ∧ some k_ ≠ (.slice Ao96 t228.length co96 : Value).ownBlock) (Kd.R_keptB (HO194.out) hkp (fun k_ hk_ hs_ => (hk_.2.1) hs_)) (fun k_ hk_ => ⟨hk_.1.1, hk_.1.2.1, hk_.1.2.2.1, hk_.1.2.2.2.1, hk_.1.2.2.2.2⟩)); have n3_ := qm_ (Kd.R_mono (ok' := fun k_ => some k_ ≠ (.slice Ao66 t206.length co66 : Value).ownBlock ∧ some k_ ≠ (.slice Ao76 t211.length co76 : Value).ownBlock ∧ some k_ ≠ (.slice Ao86 t216.length co86 : Value).ownBlock ∧ some k_ ≠ (.slice Ao92 t223.length co92 : Value).ownBlock ∧ some k_ ≠ (.slice Ao96 t228.length co96 : Value).ownBlock) (Kd.R_keptB (HO198.out) hkp (fun k_ hk_ hs_ => (hk_.2.1) hs_)) (fun k_ hk_ => ⟨hk_.1.1, hk_.1.2.1, hk_.1.2.2.1, hk_.1.2.2.2.1, hk_.1.2.2.2.2⟩)); have n4_ := qm_ (Kd.R_mono (ok' := fun k_ => some k_ ≠ (.slice Ao66 t206.length co66 : Value).ownBlock ∧ some k_ ≠ (.slice Ao76 t211.length co76 : Value).ownBlock ∧ some k_ ≠ (.slice Ao86 t216.length co86 : Value).ownBlock ∧ some k_ ≠ (.slice Ao92 t223.length co92 : Value).ownBlock ∧ some k_ ≠ (.slice Ao96 t228.length co96 : Value).ownBlock) (Kd.R_keptB (HO202.out) hkp (fun k_ hk_ hs_ => (hk_.2.1) hs_)) (fun k_ hk_ => ⟨hk_.1.1, hk_.1.2.1, hk_.1.2.2.1, hk_.1.2.2.2.1, hk_.1.2.2.2.2⟩)); have n5_ := qm_ (blk_kept (by (with_reducible repeat (first | refine qu_ ?_ _ | refine qv_ ?_ | refine qw_ ?_ _)); exact BK204.out) hkp (fun hs_ => (fun e_ => (Kd.R_ne HO213.out BK204.out (by decide)) e_) hs_)); have n6_ := qm_ (Kd.R_mono (ok' := fun k_ => some k_ ≠ (v193 : Value).ownBlock ∧ some k_ ≠ (v197 : Value).ownBlock ∧ some k_ ≠ (.slice Ao88 t200.length co88 : Value).ownBlock ∧ some k_ ≠ (.slice Ao76 t211.length co76 : Value).ownBlock ∧ some k_ ≠ (.slice Ao86 t216.length co86 : Value).ownBlock ∧ some k_ ≠ (.slice Ao92 t223.length co92 : Value).ownBlock ∧ some k_ ≠ (.slice Ao96 t228.length co96 : Value).ownBlock) (Kd.R_keptB (HO208.out) hkp (fun k_ hk_ hs_ => (hk_.1.1.1.2) hs_)) (fun k_ hk_ => ⟨hk_.1.1.1.1.1.1.1.2, hk_.1.1.1.1.1.1.2, hk_.1.1.1.1.1.2, hk_.1.1.1.1.2, hk_.1.1.1.2, hk_.1.1.2, hk_.1.2⟩)); have n7_ := qm_ (blk_kept (by (with_reducible repeat (first | refine qu_ ?_ _ | refine qv_ ?_ | refine qw_ ?_ _)); exact BK209.out) hkp (fun hs_ => (fun e_ => (Kd.R_ne HO213.out BK209.out (by decide)) e_) hs_)); have n8_ := qm_ (Kd.R_reok rfl hy0 (fun k_ e_ => HO213.out.1 k_ e_)); have n9_ := qm_ (blk_kept (by (with_reducible repeat (first | refine qu_ ?_ _ | refine qv_ ?_ | refine qw_ ?_ _)); exact BK214.out) hkp (fun hs_ => (fun e_ => (Kd.R_ne HO213.out BK214.out (by decide)) e_) hs_)); have n10_ := qm_ (Kd.R_mono (ok' := fun k_ => some k_ ≠ (v193 : Value).ownBlock ∧ some k_ ≠ (v197 : Value).ownBlock ∧ some k_ ≠ (.slice Ao88 t200.length co88 : Value).ownBlock ∧ some k_ ≠ (.slice Ao66 t206.length co66 : Value).ownBlock ∧ some k_ ≠ (.slice Ao76 t211.length co76 : Value).ownBlock ∧ some k_ ≠ (.slice Ao92 t223.length co92 : Value).ownBlock ∧ some k_ ≠ (.slice Ao96 t228.length co96 : Value).ownBlock) (Kd.R_keptB (HO218.out) hkp (fun k_ hk_ hs_ => (hk_.2.2.2.2.1) hs_)) (fun k_ hk_ => ⟨hk_.1.1, hk_.1.2.1, hk_.1.2.2.1, hk_.1.2.2.2.1, hk_.1.2.2.2.2.1, hk_.1.2.2.2.2.2.1, hk_.1.2.2.2.2.2.2⟩)); have n11_ := qm_ (blk_kept (by (with_reducible repeat (first | refine qu_ ?_ _ | refine qv_ ?_ | refine qw_ ?_ _)); exact BK220.out) hkp (fun hs_ => (fun e_ => (Kd.R_ne HO213.out BK220.out (by decide)) e_) hs_)); have n12_ := qm_ (Kd.R_mono (ok' := fun k_ => some k_ ≠ (v193 : Value).ownBlock ∧ some k_ ≠ (v197 : Value).ownBlock ∧ some k_ ≠ (.slice Ao88 t200.length co88 : Value).ownBlock ∧ some k_ ≠ (.slice Ao66 t206.length co66 : Value).ownBlock ∧ some k_ ≠ (.slice Ao76 t211.length co76 : Value).ownBlock ∧ some k_ ≠ (.slice Ao86 t216.length co86 : Value).ownBlock ∧ some k_ ≠ (.slice Ao96 t228.length co96 : Value).ownBlock) (Kd.R_keptB (HO225.out) hkp (fun k_ hk_ hs_ => (hk_.2.2.2.2.1) hs_)) (fun k_ hk_ => ⟨hk_.1.1, hk_.1.2.1, hk_.1.2.2.1, hk_.1.2.2.2.1, hk_.1.2.2.2.2.1, hk_.1.2.2.2.2.2.1, hk_.1.2.2.2.2.2.2⟩)); have n13_ := qm_ (Kd.R_mono (ok' := fun k_ => some k_ ≠ (v193 : Value).ownBlock ∧ some k_ ≠ (v197 : Value).ownBlock ∧ some k_ ≠ (.slice Ao88 t200.length co88 : Value).ownBlock ∧ some k_ ≠ (.slice Ao66 t206.length co66 : Value).ownBlock ∧ some k_ ≠ (.slice Ao76 t211.length co76 : Value).ownBlock ∧ some k_ ≠ (.slice Ao86 t216.length co86 : Value).ownBlock ∧ some k_ ≠ (.slice Ao92 t223.length co92 : Value).ownBlock) (Kd.R_keptB (HO230.out) hkp (fun k_ hk_ hs_ => (hk_.2.2.2.2.1) hs_)) (fun k_ hk_ => ⟨hk_.1.1, hk_.1.2.1, hk_.1.2.2.1, hk_.1.2.2.2.1, hk_.1.2.2.2.2.1, hk_.1.2.2.2.2.2.1, hk_.1.2.2.2.2.2.2⟩)); have n14_ := qm_ (hb); clear BK187; clear BK188; clear HO194; clear HO198; clear HO202; clear BK204; clear HO208; clear BK209; clear HO213; clear BK214; clear HO218; clear BK220; clear HO225; clear HO230; clear HB; have BK187 := n0_; have BK188 := n1_; have HO194 := n2_; have HO198 := n3_; have HO202 := n4_; have BK204 := n5_; have HO208 := n6_; have BK209 := n7_; have HO213 := n8_; have BK214 := n9_; have HO218 := n10_; have BK220 := n11_; have HO225 := n12_; have HO230 := n13_; have HB := n14_; clear n0_ n1_ n2_ n3_ n4_ n5_ n6_ n7_ n8_ n9_ n10_ n11_ n12_ n13_ n14_; (try clear hb); (try clear hkp); (try clear hy0); have hcz102_0 : w101.cell? ⟨gb220, 0, none⟩ = some (.int .i64 t215) := (blk_cell BK220.out 0).trans rfl; have hcz102_1 : w101.cell? ⟨gb220, 1, none⟩ = some (.slice Ao86 t216.length co86) := (blk_cell BK220.out 1).trans rfl; have hfz102_0 := blk_frozen BK220.out 0; have hfz102_1 := blk_frozen BK220.out 1; have hcz103_0 : w101.cell? ⟨gb204, 0, none⟩ = some (.int .i64 t199) := (blk_cell BK204.out 0).trans rfl; have hcz103_1 : w101.cell? ⟨gb204, 1, none⟩ = some (.slice Ao88 t200.length co88) := (blk_cell BK204.out 1).trans rfl; have hfz103_0 := blk_frozen BK204.out 0; have hfz103_1 := blk_frozen BK204.out 1) | (go_at_call 15; (with_reducible refine (laws_eqBits.calls k t215 _ _ t216 t199 _ _ t200 true _ ?side1 ?side2 ?side3 ?side4 A25.out).mono ?_); (case side1 => repeat (first | exact (Kd.R_reads' HO218.out).2.2 | (with_reducible refine Kd.C_alloc ?_ _) | (with_reducible refine Kd.C_drewN ?_ _) | (with_reducible refine Kd.C_drew ?_))); (case side2 => exact (Kd.R_reads' HO218.out).2.1); (case side3 => repeat (first | exact (Kd.R_reads' HO202.out).2.2 | (with_reducible refine Kd.C_alloc ?_ _) | (with_reducible refine Kd.C_drewN ?_ _) | (with_reducible refine Kd.C_drew ?_))); (case side4 => exact (Kd.R_reads' HO202.out).2.1); rintro e w104 ⟨rfl, hb⟩; have n0_ := qm_ (qb_ (by (with_reducible repeat (first | apply qa_ | apply qn_ | apply qd_)); exact HO194.out) hb); have n1_ := qm_ (qb_ (by (with_reducible repeat (first | apply qa_ | apply qn_ | apply qd_)); exact HO198.out) hb); have n2_ := qm_ (qb_ (by (with_reducible repeat (first | apply qa_ | apply qn_ | apply qd_)); exact HO202.out) hb); have n3_ := qm_ (qb_ (by (with_reducible repeat (first | apply qa_ | apply qn_ | apply qd_)); exact HO208.out) hb); have n4_ := qm_ (qb_ (by (with_reducible repeat (first | apply qa_ | apply qn_ | apply qd_)); exact HO213.out) hb); have n5_ := qm_ (qb_ (by (with_reducible repeat (first | apply qa_ | apply qn_ | apply qd_)); exact HO218.out) hb); have n6_ := qm_ (qb_ (by (with_reducible repeat (first | apply qa_ | apply qn_ | apply qd_)); exact HO225.out) hb); have n7_ := qm_ (qb_ (by (with_reducible repeat (first | apply qa_ | apply qn_ | apply qd_)); exact HO230.out) hb); have n8_ := qm_ (qs_ (g := gb187) (o := .cells #[.int .i64 a0_0, .slice A0_1 l0_1.length c0_1] 34 (0, 0)) (by (with_reducible repeat (first | refine qu_ ?_ _ | refine qv_ ?_ | refine qw_ ?_ _)); exact BK187.out) hb); have n9_ := qm_ (qs_ (g := gb188) (o := .cells #[.int .i64 a1_0, .slice A1_1 l1_1.length c1_1] 34 (0, 0)) (by (with_reducible repeat (first | refine qu_ ?_ _ | refine qv_ ?_ | refine qw_ ?_ _)); exact BK188.out) hb); have n10_ := qm_ (qs_ (g := gb204) (o := .cells #[.int .i64 t199, .slice Ao88 t200.length co88] 24 (0, 0)) (by (with_reducible repeat (first | refine qu_ ?_ _ | refine qv_ ?_ | refine qw_ ?_ _)); exact BK204.out) hb); have n11_ := qm_ (qs_ (g := gb209) (o := .cells #[.int .i64 t205, .slice Ao66 t206.length co66] 24 (0, 0)) (by (with_reducible repeat (first | refine qu_ ?_ _ | refine qv_ ?_ | refine qw_ ?_ _)); exact BK209.out) hb); have n12_ := qm_ (qs_ (g := gb214) (o := .cells #[.int .i64 t210, .slice Ao76 t211.length co76] 24 (0, 0)) (by (with_reducible repeat (first | refine qu_ ?_ _ | refine qv_ ?_ | refine qw_ ?_ _)); exact BK214.out) hb); have n13_ := qm_ (qs_ (g := gb220) (o := .cells #[.int .i64 t215, .slice Ao86 t216.length co86] 24 (0, 0)) (by (with_reducible repeat (first | refine qu_ ?_ _ | refine qv_ ?_ | refine qw_ ?_ _)); exact BK220.out) hb); have n14_ := qm_ (qh_ (by repeat (first | (with_reducible first | exact HB.out | apply qc_ | apply qx_ | apply qf_ | refine qg_ ?_ GE187.out | refine qg_ ?_ GE188.out | refine qg_ ?_ GE204.out | refine qg_ ?_ GE209.out | refine qg_ ?_ GE214.out | refine qg_ ?_ GE220.out) | exact HB.out)) hb); clear HO194; clear HO198; clear HO202; clear HO208; clear HO213; clear HO218; clear HO225; clear HO230; clear BK187; clear BK188; clear BK204; clear BK209; clear BK214; clear BK220; clear HB; have HO194 := n0_; have HO198 := n1_; have HO202 := n2_; have HO208 := n3_; have HO213 := n4_; have HO218 := n5_; have HO225 := n6_; have HO230 := n7_; have BK187 := n8_; have BK188 := n9_; have BK204 := n10_; have BK209 := n11_; have BK214 := n12_; have BK220 := n13_; have HB := n14_; clear n0_ n1_ n2_ n3_ n4_ n5_ n6_ n7_ n8_ n9_ n10_ n11_ n12_ n13_ n14_; (try clear hb); (try clear hb2); (try clear hk); (try clear hi); have hcz105_0 : w104.cell? ⟨gb220, 0, none⟩ = some (.int .i64 t215) := (blk_cell BK220.out 0).trans rfl; have hcz105_1 : w104.cell? ⟨gb220, 1, none⟩ = some (.slice Ao86 t216.length co86) := (blk_cell BK220.out 1).trans rfl; have hfz105_0 := blk_frozen BK220.out 0; have hfz105_1 := blk_frozen BK220.out 1) | ((with_reducible refine gate_callee (f := 16) rfl ?_); refine goesL_ (some 85) rfl rfl Try.func16 (by kernel_rfl) rfl #[.agg #[.int .i64 t215, .slice Ao86 t216.length co86], .int .i64 1] rfl (by (try simp only [List.map_toArray, List.map_cons, List.map_nil]); first | done | rfl | (simp only [List.length_drop, List.length_take]; rfl)) ?_; (with_reducible refine (laws_markBits.calls k t215 (fun k_ => some k_ = (.slice Ao86 t216.length co86 : Value).ownBlock) (.slice Ao86 t216.length co86) t216 1 t237 t238 w _ ?side1 ?side2 A27.out).mono ?_); (case side1 => repeat (first | (with_reducible first | exact HB.out | apply qc_ | apply qx_ | apply qf_ | refine qg_ ?_ GE187.out | refine qg_ ?_ GE188.out | refine qg_ ?_ GE204.out | refine qg_ ?_ GE209.out | refine qg_ ?_ GE214.out | refine qg_ ?_ GE220.out) | exact HB.out)); (case side2 => exact Kd.R_tight rfl HO218.out); rintro e w106 ⟨rfl, hy0, hb, hkp⟩; refine ⟨_, rfl, ?_⟩; have n0_ := qm_ (blk_kept (by (with_reducible repeat (first | refine qu_ ?_ _ | refine qv_ ?_ | refine qw_ ?_ _)); exact BK187.out) hkp (fun hs_ => (fun e_ => (Kd.R_ne HO218.out BK187.out (by decide)) e_) hs_)); have n1_ := qm_ (blk_kept (by (with_reducible repeat (first | refine qu_ ?_ _ | refine qv_ ?_ | refine qw_ ?_ _)); exact BK188.out) hkp (fun hs_ => (fun e_ => (Kd.R_ne HO218.out BK188.out (by decide)) e_) hs_)); have n2_ := qm_ (Kd.R_mono (ok' := fun k_ => some k_ ≠ (.slice Ao66 t206.length co66 : Value).ownBlock ∧ some k_ ≠ (.slice Ao76 t211.length co76 : Value).ownBlock ∧ some k_ ≠ (.slice Ao86 t216.length co86 : Value).ownBlock ∧ some k_ ≠ (.slice Ao92 t223.length co92 : Value).ownBlock ∧ some k_ ≠ (.slice Ao96 t228.length co96 : Value).ownBlock) (Kd.R_keptB (HO194.out) hkp (fun k_ hk_ hs_ => (hk_.2.2.1) hs_)) (fun k_ hk_ => ⟨hk_.1.1, hk_.1.2.1, hk_.1.2.2.1, hk_.1.2.2.2.1, hk_.1.2.2.2.2⟩)); have n3_ := qm_ (Kd.R_mono (ok' := fun k_ => some k_ ≠ (.slice Ao66 t206.length co66 : Value).ownBlock ∧ some k_ ≠ (.slice Ao76 t211.length co76 : Value).ownBlock ∧ some k_ ≠ (.slice Ao86 t216.length co86 : Value).ownBlock ∧ some k_ ≠ (.slice Ao92 t223.length co92 : Value).ownBlock ∧ some k_ ≠ (.slice Ao96 t228.length co96 : Value).ownBlock) (Kd.R_keptB (HO198.out) hkp (fun k_ hk_ hs_ => (hk_.2.2.1) hs_)) (fun k_ hk_ => ⟨hk_.1.1, hk_.1.2.1, hk_.1.2.2.1, hk_.1.2.2.2.1, hk_.1.2.2.2.2⟩)); have n4_ := qm_ (Kd.R_mono (ok' := fun k_ => some k_ ≠ (.slice Ao66 t206.length co66 : Value).ownBlock ∧ some k_ ≠ (.slice Ao76 t211.length co76 : Value).ownBlock ∧ some k_ ≠ (.slice Ao86 t216.length co86 : Value).ownBlock ∧ some k_ ≠ (.slice Ao92 t223.length co92 : Value).ownBlock ∧ some k_ ≠ (.slice Ao96 t228.length co96 : Value).ownBlock) (Kd.R_keptB (HO202.out) hkp (fun k_ hk_ hs_ => (hk_.2.2.1) hs_)) (fun k_ hk_ => ⟨hk_.1.1, hk_.1.2.1, hk_.1.2.2.1, hk_.1.2.2.2.1, hk_.1.2.2.2.2⟩)); have n5_ := qm_ (blk_kept (by (with_reducible repeat (first | refine qu_ ?_ _ | refine qv_ ?_ | refine qw_ ?_ _)); exact BK204.out) hkp (fun hs_ => (fun e_ => (Kd.R_ne HO218.out BK204.out (by decide)) e_) hs_)); have n6_ := qm_ (Kd.R_mono (ok' := fun k_ => some k_ ≠ (v193 : Value).ownBlock ∧ some k_ ≠ (v197 : Value).ownBlock ∧ some k_ ≠ (.slice Ao88 t200.length co88 : Value).ownBlock ∧ some k_ ≠ (.slice Ao76 t211.length co76 : Value).ownBlock ∧ some k_ ≠ (.slice Ao86 t216.length co86 : Value).ownBlock ∧ some k_ ≠ (.slice Ao92 t223.length co92 : Value).ownBlock ∧ some k_ ≠ (.slice Ao96 t228.length co96 : Value).ownBlock) (Kd.R_keptB (HO208.out) hkp (fun k_ hk_ hs_ => (hk_.2.2.2.2.1) hs_)) (fun k_ hk_ => ⟨hk_.1.1, hk_.1.2.1, hk_.1.2.2.1, hk_.1.2.2.2.1, hk_.1.2.2.2.2.1, hk_.1.2.2.2.2.2.1, hk_.1.2.2.2.2.2.2⟩)); have n7_ := qm_ (blk_kept (by (with_reducible repeat (first | refine qu_ ?_ _ | refine qv_ ?_ | refine qw_ ?_ _)); exact BK209.out) hkp (fun hs_ => (fun e_ => (Kd.R_ne HO218.out BK209.out (by decide)) e_) hs_)); have n8_ := qm_ (Kd.R_mono (ok' := fun k_ => some k_ ≠ (v193 : Value).ownBlock ∧ some k_ ≠ (v197 : Value).ownBlock ∧ some k_ ≠ (.slice Ao88 t200.length co88 : Value).ownBlock ∧ some k_ ≠ (.slice Ao66 t206.length co66 : Value).ownBlock ∧ some k_ ≠ (.slice Ao86 t216.length co86 : Value).ownBlock ∧ some k_ ≠ (.slice Ao92 t223.length co92 : Value).ownBlock ∧ some k_ ≠ (.slice Ao96 t228.length co96 : Value).ownBlock) (Kd.R_keptB (HO213.out) hkp (fun k_ hk_ hs_ => (hk_.2.2.2.2.1) hs_)) (fun k_ hk_ => ⟨hk_.1.1, hk_.1.2.1, hk_.1.2.2.1, hk_.1.2.2.2.1, hk_.1.2.2.2.2.1, hk_.1.2.2.2.2.2.1, hk_.1.2.2.2.2.2.2⟩)); have n9_ := qm_ (blk_kept (by (with_reducible repeat (first | refine qu_ ?_ _ | refine qv_ ?_ | refine qw_ ?_ _)); exact BK214.out) hkp (fun hs_ => (fun e_ => (Kd.R_ne HO218.out BK214.out (by decide)) e_) hs_)); have n10_ := qm_ (Kd.R_reok rfl hy0 (fun k_ e_ => HO218.out.1 k_ e_)); have n11_ := qm_ (blk_kept (by (with_reducible repeat (first | refine qu_ ?_ _ | refine qv_ ?_ | refine qw_ ?_ _)); exact BK220.out) hkp (fun hs_ => (fun e_ => (Kd.R_ne HO218.out BK220.out (by decide)) e_) hs_)); have n12_ := qm_ (Kd.R_mono (ok' := fun k_ => some k_ ≠ (v193 : Value).ownBlock ∧ some k_ ≠ (v197 : Value).ownBlock ∧ some k_ ≠ (.slice Ao88 t200.length co88 : Value).ownBlock ∧ some k_ ≠ (.slice Ao66 t206.length co66 : Value).ownBlock ∧ some k_ ≠ (.slice Ao76 t211.length co76 : Value).ownBlock ∧ some k_ ≠ (.slice Ao86 t216.length co86 : Value).ownBlock ∧ some k_ ≠ (.slice Ao96 t228.length co96 : Value).ownBlock) (Kd.R_keptB (HO225.out) hkp (fun k_ hk_ hs_ => (hk_.2.2.2.2.2.1) hs_)) (fun k_ hk_ => ⟨hk_.1.1, hk_.1.2.1, hk_.1.2.2.1, hk_.1.2.2.2.1, hk_.1.2.2.2.2.1, hk_.1.2.2.2.2.2.1, hk_.1.2.2.2.2.2.2⟩)); have n13_ := qm_ (Kd.R_mono (ok' := fun k_ => some k_ ≠ (v193 : Value).ownBlock ∧ some k_ ≠ (v197 : Value).ownBlock ∧ some k_ ≠ (.slice Ao88 t200.length co88 : Value).ownBlock ∧ some k_ ≠ (.slice Ao66 t206.length co66 : Value).ownBlock ∧ some k_ ≠ (.slice Ao76 t211.length co76 : Value).ownBlock ∧ some k_ ≠ (.slice Ao86 t216.length co86 : Value).ownBlock ∧ some k_ ≠ (.slice Ao92 t223.length co92 : Value).ownBlock) (Kd.R_keptB (HO230.out) hkp (fun k_ hk_ hs_ => (hk_.2.2.2.2.2.1) hs_)) (fun k_ hk_ => ⟨hk_.1.1, hk_.1.2.1, hk_.1.2.2.1, hk_.1.2.2.2.1, hk_.1.2.2.2.2.1, hk_.1.2.2.2.2.2.1, hk_.1.2.2.2.2.2.2⟩)); have n14_ := qm_ (hb); clear BK187; clear BK188; clear HO194; clear HO198; clear HO202; clear BK204; clear HO208; clear BK209; clear HO213; clear BK214; clear HO218; clear BK220; clear HO225; clear HO230; clear HB; have BK187 := n0_; have BK188 := n1_; have HO194 := n2_; have HO198 := n3_; have HO202 := n4_; have BK204 := n5_; have HO208 := n6_; have BK209 := n7_; have HO213 := n8_; have BK214 := n9_; have HO218 := n10_; have BK220 := n11_; have HO225 := n12_; have HO230 := n13_; have HB := n14_; clear n0_ n1_ n2_ n3_ n4_ n5_ n6_ n7_ n8_ n9_ n10_ n11_ n12_ n13_ n14_; (try clear hb); (try clear hkp); (try clear hy0); have hcz107_0 : w106.cell? ⟨gb220, 0, none⟩ = some (.int .i64 t215) := (blk_cell BK220.out 0).trans rfl; have hcz107_1 : w106.cell? ⟨gb220, 1, none⟩ = some (.slice Ao86 t216.length co86) := (blk_cell BK220.out 1).trans rfl; have hfz107_0 := blk_frozen BK220.out 0; have hfz107_1 := blk_frozen BK220.out 1) | ((with_reducible refine gate_callee (f := 17) rfl ?_); refine goesL_ (some 88) rfl rfl Try.func17 (by kernel_rfl) rfl #[.agg #[.int .i64 t215, .slice Ao86 t238.length co86], .int .i64 1] rfl (by (try simp only [List.map_toArray, List.map_cons, List.map_nil]); first | done | (rw [show t238.length = t216.length from (Kd.R_reads' HO218.out).1.symm] <;> rfl) | rfl | (simp only [List.length_drop, List.length_take]; rfl)) ?_; (with_reducible refine (laws_heldBits.calls k t215 _ _ t238 1 t239 _ ?side1 ?side2 A28.out).mono ?_); (case side1 => repeat (first | exact (Kd.R_reads' HO218.out).2.2 | (with_reducible refine Kd.C_alloc ?_ _) | (with_reducible refine Kd.C_drewN ?_ _) | (with_reducible refine Kd.C_drew ?_))); (case side2 => rw [show t238.length = t216.length from (Kd.R_reads' HO218.out).1.symm]; exact (Kd.R_reads' HO218.out).2.1); rintro e w108 ⟨rfl, hb⟩; refine ⟨_, rfl, ?_⟩; have n0_ := qm_ (qb_ (by (with_reducible repeat (first | apply qa_ | apply qn_ | apply qd_)); exact HO194.out) hb); have n1_ := qm_ (qb_ (by (with_reducible repeat (first | apply qa_ | apply qn_ | apply qd_)); exact HO198.out) hb); have n2_ := qm_ (qb_ (by (with_reducible repeat (first | apply qa_ | apply qn_ | apply qd_)); exact HO202.out) hb); have n3_ := qm_ (qb_ (by (with_reducible repeat (first | apply qa_ | apply qn_ | apply qd_)); exact HO208.out) hb); have n4_ := qm_ (qb_ (by (with_reducible repeat (first | apply qa_ | apply qn_ | apply qd_)); exact HO213.out) hb); have n5_ := qm_ (qb_ (by (with_reducible repeat (first | apply qa_ | apply qn_ | apply qd_)); exact HO218.out) hb); have n6_ := qm_ (qb_ (by (with_reducible repeat (first | apply qa_ | apply qn_ | apply qd_)); exact HO225.out) hb); have n7_ := qm_ (qb_ (by (with_reducible repeat (first | apply qa_ | apply qn_ | apply qd_)); exact HO230.out) hb); have n8_ := qm_ (qs_ (g := gb187) (o := .cells #[.int .i64 a0_0, .slice A0_1 l0_1.length c0_1] 34 (0, 0)) (by (with_reducible repeat (first | refine qu_ ?_ _ | refine qv_ ?_ | refine qw_ ?_ _)); exact BK187.out) hb); have n9_ := qm_ (qs_ (g := gb188) (o := .cells #[.int .i64 a1_0, .slice A1_1 l1_1.length c1_1] 34 (0, 0)) (by (with_reducible repeat (first | refine qu_ ?_ _ | refine qv_ ?_ | refine qw_ ?_ _)); exact BK188.out) hb); have n10_ := qm_ (qs_ (g := gb204) (o := .cells #[.int .i64 t199, .slice Ao88 t200.length co88] 24 (0, 0)) (by (with_reducible repeat (first | refine qu_ ?_ _ | refine qv_ ?_ | refine qw_ ?_ _)); exact BK204.out) hb); have n11_ := qm_ (qs_ (g := gb209) (o := .cells #[.int .i64 t205, .slice Ao66 t206.length co66] 24 (0, 0)) (by (with_reducible repeat (first | refine qu_ ?_ _ | refine qv_ ?_ | refine qw_ ?_ _)); exact BK209.out) hb); have n12_ := qm_ (qs_ (g := gb214) (o := .cells #[.int .i64 t210, .slice Ao76 t211.length co76] 24 (0, 0)) (by (with_reducible repeat (first | refine qu_ ?_ _ | refine qv_ ?_ | refine qw_ ?_ _)); exact BK214.out) hb); have n13_ := qm_ (qs_ (g := gb220) (o := .cells #[.int .i64 t215, .slice Ao86 t216.length co86] 24 (0, 0)) (by (with_reducible repeat (first | refine qu_ ?_ _ | refine qv_ ?_ | refine qw_ ?_ _)); exact BK220.out) hb); have n14_ := qm_ (qh_ (by repeat (first | (with_reducible first | exact HB.out | apply qc_ | apply qx_ | apply qf_ | refine qg_ ?_ GE187.out | refine qg_ ?_ GE188.out | refine qg_ ?_ GE204.out | refine qg_ ?_ GE209.out | refine qg_ ?_ GE214.out | refine qg_ ?_ GE220.out) | exact HB.out)) hb); clear HO194; clear HO198; clear HO202; clear HO208; clear HO213; clear HO218; clear HO225; clear HO230; clear BK187; clear BK188; clear BK204; clear BK209; clear BK214; clear BK220; clear HB; have HO194 := n0_; have HO198 := n1_; have HO202 := n2_; have HO208 := n3_; have HO213 := n4_; have HO218 := n5_; have HO225 := n6_; have HO230 := n7_; have BK187 := n8_; have BK188 := n9_; have BK204 := n10_; have BK209 := n11_; have BK214 := n12_; have BK220 := n13_; have HB := n14_; clear n0_ n1_ n2_ n3_ n4_ n5_ n6_ n7_ n8_ n9_ n10_ n11_ n12_ n13_ n14_; (try clear hb); (try clear hb2); (try clear hk); (try clear hi)))
        have n0_ := qm_ (qd_ HO194.out)
        have n1_ := qm_ (qd_ HO198.out)
        have n2_ := qm_ (qd_ HO202.out)
        have n3_ := qm_ (qd_ HO208.out)
        have n4_ := qm_ (qd_ HO213.out)
        have n5_ := qm_ (qd_ HO218.out)
        have n6_ := qm_ (qd_ HO225.out)
        have n7_ := qm_ (qd_ HO230.out)
        have n8_ := qm_ (qv_ BK187.out)
        have n9_ := qm_ (qv_ BK188.out)
        have n10_ := qm_ (qv_ BK204.out)
        have n11_ := qm_ (qv_ BK209.out)
        have n12_ := qm_ (qv_ BK214.out)
        have n13_ := qm_ (qv_ BK220.out)
        have n14_ := qm_ (qf_ HB.out)
        clear HO194
        clear HO198
        clear HO202
        clear HO208
        clear HO213
        clear HO218
        clear HO225
        clear HO230
        clear BK187
        clear BK188
        clear BK204
        clear BK209
        clear BK214
        clear BK220
        clear HB
        have HO194 := n0_
        have HO198 := n1_
        have HO202 := n2_
        have HO208 := n3_
        have HO213 := n4_
        have HO218 := n5_
        have HO225 := n6_
        have HO230 := n7_
        have BK187 := n8_
        have BK188 := n9_
        have BK204 := n10_
        have BK209 := n11_
        have BK214 := n12_
        have BK220 := n13_
        have HB := n14_
        clear n0_ n1_ n2_ n3_ n4_ n5_ n6_ n7_ n8_ n9_ n10_ n11_ n12_ n13_ n14_
        refine start_ (n := 11) (S := fun w' => True) (ds := []) #[false, false, false, false, false, false, false, false, false, false, false] (by kernel_rfl) rfl rfl trivial (fun hHeld => ?_); refine with_tabW laws_FnExactBothBits.tab31 laws_FnExactBothBits.bits31 (fun HT_ HW_ => ?_)
        generalize w108.drew = w109 at HO194 HO198 HO202 HO208 HO213 HO218 HO225 HO230 BK187 BK188 BK204 BK209 BK214 BK220 HB hHeld ⊢
        refine inv_at [0, 1, 2, 3, 4, 5, 6, 7, 8, 9, 10] (fun a0_ b a w' => ∃ (v242 : Value) (v246 : Value) (v250 : Value) (gb253 : Nat) (m1_ : Value) (m3_ : Value) (m4_ : Value) (m5_ : Value) (m6_ : Value) (m8_ : Value), a = putSel a0_ b [(0, 95, .agg #[.int .i64 a0_0, .slice A0_1 l0_1.length c0_1]), (1, 96, m1_), (2, 97, .agg #[.int .i64 a1_0, .slice A1_1 l1_1.length c1_1]), (3, 98, m3_), (4, 99, m4_), (5, 94, m5_), (6, 100, m6_), (7, 101, .bool t252), (8, 15, m8_), (10, 16, .bool t252)] ∧ (Kd.R (Kd.int .i64) 3 w' w.heap.size (fun k_ => some k_ ≠ (.slice Ao66 t206.length co66 : Value).ownBlock ∧ some k_ ≠ (.slice Ao76 t211.length co76 : Value).ownBlock ∧ some k_ ≠ (.slice Ao86 t216.length co86 : Value).ownBlock ∧ some k_ ≠ (.slice Ao92 t223.length co92 : Value).ownBlock ∧ some k_ ≠ (.slice Ao96 t228.length co96 : Value).ownBlock) v193 t192) ∧ (Kd.R (Kd.int .i64) 3 w' w.heap.size (fun k_ => some k_ ≠ (.slice Ao66 t206.length co66 : Value).ownBlock ∧ some k_ ≠ (.slice Ao76 t211.length co76 : Value).ownBlock ∧ some k_ ≠ (.slice Ao86 t216.length co86 : Value).ownBlock ∧ some k_ ≠ (.slice Ao92 t223.length co92 : Value).ownBlock ∧ some k_ ≠ (.slice Ao96 t228.length co96 : Value).ownBlock) v197 t196) ∧ (Kd.R (Kd.int .i64) 3 w' w.heap.size (fun k_ => some k_ ≠ (.slice Ao66 t206.length co66 : Value).ownBlock ∧ some k_ ≠ (.slice Ao76 t211.length co76 : Value).ownBlock ∧ some k_ ≠ (.slice Ao86 t216.length co86 : Value).ownBlock ∧ some k_ ≠ (.slice Ao92 t223.length co92 : Value).ownBlock ∧ some k_ ≠ (.slice Ao96 t228.length co96 : Value).ownBlock) (.slice Ao88 t200.length co88) t200) ∧ (Kd.R (Kd.int .i64) 3 w' w.heap.size (fun k_ => some k_ ≠ (v193 : Value).ownBlock ∧ some k_ ≠ (v197 : Value).ownBlock ∧ some k_ ≠ (.slice Ao88 t200.length co88 : Value).ownBlock ∧ some k_ ≠ (.slice Ao76 t211.length co76 : Value).ownBlock ∧ some k_ ≠ (.slice Ao86 t216.length co86 : Value).ownBlock ∧ some k_ ≠ (.slice Ao92 t223.length co92 : Value).ownBlock ∧ some k_ ≠ (.slice Ao96 t228.length co96 : Value).ownBlock) (.slice Ao66 t206.length co66) t233) ∧ (Kd.R (Kd.int .i64) 3 w' w.heap.size (fun k_ => some k_ ≠ (v193 : Value).ownBlock ∧ some k_ ≠ (v197 : Value).ownBlock ∧ some k_ ≠ (.slice Ao88 t200.length co88 : Value).ownBlock ∧ some k_ ≠ (.slice Ao66 t206.length co66 : Value).ownBlock ∧ some k_ ≠ (.slice Ao86 t216.length co86 : Value).ownBlock ∧ some k_ ≠ (.slice Ao92 t223.length co92 : Value).ownBlock ∧ some k_ ≠ (.slice Ao96 t228.length co96 : Value).ownBlock) (.slice Ao76 t211.length co76) t235) ∧ (Kd.R (Kd.int .i64) 3 w' w.heap.size (fun k_ => some k_ ≠ (v193 : Value).ownBlock ∧ some k_ ≠ (v197 : Value).ownBlock ∧ some k_ ≠ (.slice Ao88 t200.length co88 : Value).ownBlock ∧ some k_ ≠ (.slice Ao66 t206.length co66 : Value).ownBlock ∧ some k_ ≠ (.slice Ao76 t211.length co76 : Value).ownBlock ∧ some k_ ≠ (.slice Ao92 t223.length co92 : Value).ownBlock ∧ some k_ ≠ (.slice Ao96 t228.length co96 : Value).ownBlock) (.slice Ao86 t216.length co86) t238) ∧ (Kd.R (Kd.int .i64) 3 w' w.heap.size (fun k_ => some k_ ≠ (v193 : Value).ownBlock ∧ some k_ ≠ (v197 : Value).ownBlock ∧ some k_ ≠ (.slice Ao88 t200.length co88 : Value).ownBlock ∧ some k_ ≠ (.slice Ao66 t206.length co66 : Value).ownBlock ∧ some k_ ≠ (.slice Ao76 t211.length co76 : Value).ownBlock ∧ some k_ ≠ (.slice Ao86 t216.length co86 : Value).ownBlock ∧ some k_ ≠ (.slice Ao96 t228.length co96 : Value).ownBlock) (.slice Ao92 t223.length co92) t223) ∧ (Kd.R (Kd.int .i64) 3 w' w.heap.size (fun k_ => some k_ ≠ (v193 : Value).ownBlock ∧ some k_ ≠ (v197 : Value).ownBlock ∧ some k_ ≠ (.slice Ao88 t200.length co88 : Value).ownBlock ∧ some k_ ≠ (.slice Ao66 t206.length co66 : Value).ownBlock ∧ some k_ ≠ (.slice Ao76 t211.length co76 : Value).ownBlock ∧ some k_ ≠ (.slice Ao86 t216.length co86 : Value).ownBlock ∧ some k_ ≠ (.slice Ao92 t223.length co92 : Value).ownBlock) (.slice Ao96 t228.length co96) t228) ∧ (w'.heap[gb187]? = some (.cells #[.int .i64 a0_0, .slice A0_1 l0_1.length c0_1] 34 (0, 0))) ∧ (w'.heap[gb188]? = some (.cells #[.int .i64 a1_0, .slice A1_1 l1_1.length c1_1] 34 (0, 0))) ∧ (w'.heap[gb204]? = some (.cells #[.int .i64 t199, .slice Ao88 t200.length co88] 24 (0, 0))) ∧ (w'.heap[gb209]? = some (.cells #[.int .i64 t205, .slice Ao66 t206.length co66] 24 (0, 0))) ∧ (w'.heap[gb214]? = some (.cells #[.int .i64 t210, .slice Ao76 t211.length co76] 24 (0, 0))) ∧ (w'.heap[gb220]? = some (.cells #[.int .i64 t215, .slice Ao86 t216.length co86] 24 (0, 0))) ∧ (Below w.heap.size w w') ∧ (b 1 = true → Kd.R (Kd.int .i64) 3 w' w.heap.size (fun k_ => some k_ ≠ (v193 : Value).ownBlock ∧ some k_ ≠ (v197 : Value).ownBlock ∧ some k_ ≠ (.slice Ao88 t200.length co88 : Value).ownBlock ∧ some k_ ≠ (.slice Ao66 t206.length co66 : Value).ownBlock ∧ some k_ ≠ (.slice Ao76 t211.length co76 : Value).ownBlock ∧ some k_ ≠ (.slice Ao86 t216.length co86 : Value).ownBlock ∧ some k_ ≠ (.slice Ao92 t223.length co92 : Value).ownBlock ∧ some k_ ≠ (.slice Ao96 t228.length co96 : Value).ownBlock) v242 t241) ∧ (b 3 = true → Kd.R (Kd.int .i64) 3 w' w.heap.size (fun k_ => some k_ ≠ (v193 : Value).ownBlock ∧ some k_ ≠ (v197 : Value).ownBlock ∧ some k_ ≠ (.slice Ao88 t200.length co88 : Value).ownBlock ∧ some k_ ≠ (.slice Ao66 t206.length co66 : Value).ownBlock ∧ some k_ ≠ (.slice Ao76 t211.length co76 : Value).ownBlock ∧ some k_ ≠ (.slice Ao86 t216.length co86 : Value).ownBlock ∧ some k_ ≠ (.slice Ao92 t223.length co92 : Value).ownBlock ∧ some k_ ≠ (.slice Ao96 t228.length co96 : Value).ownBlock) v246 t245) ∧ (b 4 = true → Kd.R (Kd.int .i64) 3 w' w.heap.size (fun k_ => some k_ ≠ (v193 : Value).ownBlock ∧ some k_ ≠ (v197 : Value).ownBlock ∧ some k_ ≠ (.slice Ao88 t200.length co88 : Value).ownBlock ∧ some k_ ≠ (.slice Ao66 t206.length co66 : Value).ownBlock ∧ some k_ ≠ (.slice Ao76 t211.length co76 : Value).ownBlock ∧ some k_ ≠ (.slice Ao86 t216.length co86 : Value).ownBlock ∧ some k_ ≠ (.slice Ao92 t223.length co92 : Value).ownBlock ∧ some k_ ≠ (.slice Ao96 t228.length co96 : Value).ownBlock) v250 t249) ∧ (b 8 = true → b 9 = false → w'.heap[gb253]? = some (.cells #[.int .i64 0, .slice none 0 0] 24 (0, 0))) ∧ (b 8 = true → w.heap.size ≤ gb253) ∧ (b 8 = true → w.heap.size ≤ gb253) ∧ (b 8 = true → gb187 ≠ gb253) ∧ (b 8 = true → gb253 ≠ gb187) ∧ (b 8 = true → gb188 ≠ gb253) ∧ (b 8 = true → gb253 ≠ gb188) ∧ (b 8 = true → gb204 ≠ gb253) ∧ (b 8 = true → gb253 ≠ gb204) ∧ (b 8 = true → gb209 ≠ gb253) ∧ (b 8 = true → gb253 ≠ gb209) ∧ (b 8 = true → gb214 ≠ gb253) ∧ (b 8 = true → gb253 ≠ gb214) ∧ (b 8 = true → gb220 ≠ gb253) ∧ (b 8 = true → gb253 ≠ gb220) ∧ (b 9 = true → w'.heap[gb253]? = some (.cells #[.int .i64 t248, v250] 24 (0, 0))) ∧ (b 1 = true → (m1_ : Value) = .agg #[.int .i64 t240, v242]) ∧ (b 3 = true → (m3_ : Value) = .agg #[.int .i64 t244, v246]) ∧ (b 4 = true → (m4_ : Value) = .tuple #[.agg #[.int .i64 t248, v250], .bool t252]) ∧ (b 5 = true → (m5_ : Value) = .tuple #[.agg #[.int .i64 t248, v250], .bool t252]) ∧ (b 6 = true → (m6_ : Value) = .agg #[.int .i64 t248, v250]) ∧ (b 8 = true → (m8_ : Value) = .pointer (some ⟨gb253, 0, none⟩))) HT_.out HW_.out (by kernel_rfl) (by kernel_rfl) ?_ ?_ ?_
        ·exact ⟨.bool false, .bool false, .bool false, 0, .bool false, .bool false, .bool false, .bool false, .bool false, .bool false, by simp only [putSel, Bool.false_eq_true, if_false], HO194.out, HO198.out, HO202.out, HO208.out, HO213.out, HO218.out, HO225.out, HO230.out, BK187.out, BK188.out, BK204.out, BK209.out, BK214.out, BK220.out, HB.out, fun h_ => absurd h_ (by decide), fun h_ => absurd h_ (by decide), fun h_ => absurd h_ (by decide), fun h_ => absurd h_ (by decide), fun h_ => absurd h_ (by decide), fun h_ => absurd h_ (by decide), fun h_ => absurd h_ (by decide), fun h_ => absurd h_ (by decide), fun h_ => absurd h_ (by decide), fun h_ => absurd h_ (by decide), fun h_ => absurd h_ (by decide), fun h_ => absurd h_ (by decide), fun h_ => absurd h_ (by decide), fun h_ => absurd h_ (by decide), fun h_ => absurd h_ (by decide), fun h_ => absurd h_ (by decide), fun h_ => absurd h_ (by decide), fun h_ => absurd h_ (by decide), fun h_ => absurd h_ (by decide), fun h_ => absurd h_ (by decide), fun h_ => absurd h_ (by decide), fun h_ => absurd h_ (by decide), fun h_ => absurd h_ (by decide), fun h_ => absurd h_ (by decide), fun h_ => absurd h_ (by decide)⟩
        ·skip
         clear BK187 BK188 BK204 BK209 BK214 BK220 HB HO194 HO198 HO202 HO208 HO213 HO218 HO225 HO230
         refine steps_cons ?_ ?_
         ·rintro b a w' ⟨v242, v246, v250, gb253, m1_, m3_, m4_, m5_, m6_, m8_, ha, Q_HO194, Q_HO198, Q_HO202, Q_HO208, Q_HO213, Q_HO218, Q_HO225, Q_HO230, Q_BK187, Q_BK188, Q_BK204, Q_BK209, Q_BK214, Q_BK220, Q_HB, Q_HO243, Q_HO247, Q_HO251, Q_BK253, Q_GW253, Q_GE253, Q_NB187_253, Q_NB253_187, Q_NB188_253, Q_NB253_188, Q_NB204_253, Q_NB253_204, Q_NB209_253, Q_NB253_209, Q_NB214_253, Q_NB253_214, Q_NB220_253, Q_NB253_220, Q_BK253_e9, Q_X1_, Q_X3_, Q_X4_, Q_X5_, Q_X6_, Q_X8_⟩ hb_ hon hoff
          refine ⟨_, rfl, fun K hK => ?_⟩
          have e2 : a.tmps[2]? = some (.pointer (some ⟨gb187, 0, none⟩)) := by rw [ha]; exact (putSel_off rfl).trans rfl
          replace ha := qm_ ha
          have HO194 := qm_ Q_HO194
          have HO198 := qm_ Q_HO198
          have HO202 := qm_ Q_HO202
          have HO208 := qm_ Q_HO208
          have HO213 := qm_ Q_HO213
          have HO218 := qm_ Q_HO218
          have HO225 := qm_ Q_HO225
          have HO230 := qm_ Q_HO230
          have BK187 := qm_ Q_BK187
          have BK188 := qm_ Q_BK188
          have BK204 := qm_ Q_BK204
          have BK209 := qm_ Q_BK209
          have BK214 := qm_ Q_BK214
          have BK220 := qm_ Q_BK220
          have HB := qm_ Q_HB
          have hc0_ : w'.cell? ⟨gb187, 0, none⟩ = some (.int .i64 a0_0) := (blk_cell BK187.out 0).trans rfl
          have hc1_ : w'.cell? ⟨gb187, 1, none⟩ = some (.slice A0_1 l0_1.length c0_1) := (blk_cell BK187.out 1).trans rfl
          refine value_ (w1 := w') (v := .agg #[.int .i64 a0_0, .slice A0_1 l0_1.length c0_1]) (by rfl) rfl ?_ ?_
          ·go_simp
           (try simp only [i64_w])
           try rfl
          refine hK.out _ _ ⟨v242, v246, v250, gb253, m1_, m3_, m4_, m5_, m6_, m8_, (by rw [ha.out]; exact putSel_upk 0 hb_ rfl rfl rfl), Q_HO194, Q_HO198, Q_HO202, Q_HO208, Q_HO213, Q_HO218, Q_HO225, Q_HO230, Q_BK187, Q_BK188, Q_BK204, Q_BK209, Q_BK214, Q_BK220, Q_HB, fun h0_ => absurd ((hoff 1 (by kernel_rfl)).symm.trans h0_) (by decide), fun h0_ => absurd ((hoff 3 (by kernel_rfl)).symm.trans h0_) (by decide), fun h0_ => absurd ((hoff 4 (by kernel_rfl)).symm.trans h0_) (by decide), Q_BK253, Q_GW253, Q_GE253, Q_NB187_253, Q_NB253_187, Q_NB188_253, Q_NB253_188, Q_NB204_253, Q_NB253_204, Q_NB209_253, Q_NB253_209, Q_NB214_253, Q_NB253_214, Q_NB220_253, Q_NB253_220, fun h0_ => absurd ((hoff 9 (by kernel_rfl)).symm.trans h0_) (by decide), fun h0_ => absurd ((hoff 1 (by kernel_rfl)).symm.trans h0_) (by decide), fun h0_ => absurd ((hoff 3 (by kernel_rfl)).symm.trans h0_) (by decide), fun h0_ => absurd ((hoff 4 (by kernel_rfl)).symm.trans h0_) (by decide), fun h0_ => absurd ((hoff 5 (by kernel_rfl)).symm.trans h0_) (by decide), fun h0_ => absurd ((hoff 6 (by kernel_rfl)).symm.trans h0_) (by decide), Q_X8_⟩
         refine steps_cons ?_ ?_
         ·rintro b a w' ⟨v242, v246, v250, gb253, m1_, m3_, m4_, m5_, m6_, m8_, ha, Q_HO194, Q_HO198, Q_HO202, Q_HO208, Q_HO213, Q_HO218, Q_HO225, Q_HO230, Q_BK187, Q_BK188, Q_BK204, Q_BK209, Q_BK214, Q_BK220, Q_HB, Q_HO243, Q_HO247, Q_HO251, Q_BK253, Q_GW253, Q_GE253, Q_NB187_253, Q_NB253_187, Q_NB188_253, Q_NB253_188, Q_NB204_253, Q_NB253_204, Q_NB209_253, Q_NB253_209, Q_NB214_253, Q_NB253_214, Q_NB220_253, Q_NB253_220, Q_BK253_e9, Q_X1_, Q_X3_, Q_X4_, Q_X5_, Q_X6_, Q_X8_⟩ hb_ hon hoff
          refine ⟨_, rfl, fun K hK => ?_⟩
          have e95 : a.tmps[95]? = some (.agg #[.int .i64 a0_0, .slice A0_1 l0_1.length c0_1]) := by rw [ha]; exact putSel_on (e := (0, 95, .agg #[.int .i64 a0_0, .slice A0_1 l0_1.length c0_1])) 0 rfl rfl (hon 0 (by kernel_rfl)) rfl
          replace ha := qm_ ha
          have HO194 := qm_ Q_HO194
          have HO198 := qm_ Q_HO198
          have HO202 := qm_ Q_HO202
          have HO208 := qm_ Q_HO208
          have HO213 := qm_ Q_HO213
          have HO218 := qm_ Q_HO218
          have HO225 := qm_ Q_HO225
          have HO230 := qm_ Q_HO230
          have BK187 := qm_ Q_BK187
          have BK188 := qm_ Q_BK188
          have BK204 := qm_ Q_BK204
          have BK209 := qm_ Q_BK209
          have BK214 := qm_ Q_BK214
          have BK220 := qm_ Q_BK220
          have HB := qm_ Q_HB
          refine goes_ Try.func24 (by kernel_rfl) rfl #[.agg #[.int .i64 a0_0, .slice A0_1 l0_1.length c0_1]] (by rfl) rfl rfl (by first | (simp only [List.map_toArray, List.map_cons, List.map_nil, Act.eval, Array.getD_eq_getD_getElem?, Option.getD_some, e95]; done) | (simp only [List.map_toArray, List.map_cons, List.map_nil, Act.eval, Array.getD_eq_getD_getElem?, Option.getD_some, e95]; rfl)) ?_
          with_reducible refine (laws_toBits.calls k a0_0 _ _ l0_1 t240 t241 _ ?side1 ?side2 A31.out).mono ?_
          (case side1 => repeat (first | exact (Kd.C_below HR0_1.out HB.out) | (with_reducible refine Kd.C_alloc ?_ _) | (with_reducible refine Kd.C_drewN ?_ _) | (with_reducible refine Kd.C_drew ?_)))
          (case side2 => exact HC0_1.out)
          rintro e w110 ⟨v242, rfl, ho0, hb⟩
          refine ⟨_, rfl, ?_⟩
          have n0_ := qm_ (Kd.R_elder' (by (with_reducible repeat (first | apply qa_ | apply qn_ | apply qd_)); exact HO194.out) (Kd.R_base ho0) hb)
          have n1_ := qm_ (Kd.R_elder' (by (with_reducible repeat (first | apply qa_ | apply qn_ | apply qd_)); exact HO198.out) (Kd.R_base ho0) hb)
          have n2_ := qm_ (Kd.R_elder' (by (with_reducible repeat (first | apply qa_ | apply qn_ | apply qd_)); exact HO202.out) (Kd.R_base ho0) hb)
          have n3_ := qm_ (Kd.R_elder' (by (with_reducible repeat (first | apply qa_ | apply qn_ | apply qd_)); exact HO208.out) (Kd.R_base ho0) hb)
          have n4_ := qm_ (Kd.R_elder' (by (with_reducible repeat (first | apply qa_ | apply qn_ | apply qd_)); exact HO213.out) (Kd.R_base ho0) hb)
          have n5_ := qm_ (Kd.R_elder' (by (with_reducible repeat (first | apply qa_ | apply qn_ | apply qd_)); exact HO218.out) (Kd.R_base ho0) hb)
          have n6_ := qm_ (Kd.R_elder' (by (with_reducible repeat (first | apply qa_ | apply qn_ | apply qd_)); exact HO225.out) (Kd.R_base ho0) hb)
          have n7_ := qm_ (Kd.R_elder' (by (with_reducible repeat (first | apply qa_ | apply qn_ | apply qd_)); exact HO230.out) (Kd.R_base ho0) hb)
          have n8_ := qm_ (ql_ (qe_ (qe_ (qe_ (qe_ (qe_ (qe_ (qe_ (qe_ ho0 (qt_ (by (with_reducible repeat (first | apply qa_ | apply qn_ | apply qd_)); exact HO194.out))) (qt_ (by (with_reducible repeat (first | apply qa_ | apply qn_ | apply qd_)); exact HO198.out))) (qt_ (by (with_reducible repeat (first | apply qa_ | apply qn_ | apply qd_)); exact HO202.out))) (qt_ (by (with_reducible repeat (first | apply qa_ | apply qn_ | apply qd_)); exact HO208.out))) (qt_ (by (with_reducible repeat (first | apply qa_ | apply qn_ | apply qd_)); exact HO213.out))) (qt_ (by (with_reducible repeat (first | apply qa_ | apply qn_ | apply qd_)); exact HO218.out))) (qt_ (by (with_reducible repeat (first | apply qa_ | apply qn_ | apply qd_)); exact HO225.out))) (qt_ (by (with_reducible repeat (first | apply qa_ | apply qn_ | apply qd_)); exact HO230.out))) (qz_ (by repeat (first | (with_reducible first | exact HB.out | apply qc_ | apply qx_ | apply qf_ | refine qg_ ?_ GE187.out | refine qg_ ?_ GE188.out | refine qg_ ?_ GE204.out | refine qg_ ?_ GE209.out | refine qg_ ?_ GE214.out | refine qg_ ?_ GE220.out) | exact HB.out))))
          have n9_ := qm_ (qs_ (g := gb187) (o := .cells #[.int .i64 a0_0, .slice A0_1 l0_1.length c0_1] 34 (0, 0)) (by (with_reducible repeat (first | refine qu_ ?_ _ | refine qv_ ?_ | refine qw_ ?_ _)); exact BK187.out) hb)
          have n10_ := qm_ (qs_ (g := gb188) (o := .cells #[.int .i64 a1_0, .slice A1_1 l1_1.length c1_1] 34 (0, 0)) (by (with_reducible repeat (first | refine qu_ ?_ _ | refine qv_ ?_ | refine qw_ ?_ _)); exact BK188.out) hb)
          have n11_ := qm_ (qs_ (g := gb204) (o := .cells #[.int .i64 t199, .slice Ao88 t200.length co88] 24 (0, 0)) (by (with_reducible repeat (first | refine qu_ ?_ _ | refine qv_ ?_ | refine qw_ ?_ _)); exact BK204.out) hb)
          have n12_ := qm_ (qs_ (g := gb209) (o := .cells #[.int .i64 t205, .slice Ao66 t206.length co66] 24 (0, 0)) (by (with_reducible repeat (first | refine qu_ ?_ _ | refine qv_ ?_ | refine qw_ ?_ _)); exact BK209.out) hb)
          have n13_ := qm_ (qs_ (g := gb214) (o := .cells #[.int .i64 t210, .slice Ao76 t211.length co76] 24 (0, 0)) (by (with_reducible repeat (first | refine qu_ ?_ _ | refine qv_ ?_ | refine qw_ ?_ _)); exact BK214.out) hb)
          have n14_ := qm_ (qs_ (g := gb220) (o := .cells #[.int .i64 t215, .slice Ao86 t216.length co86] 24 (0, 0)) (by (with_reducible repeat (first | refine qu_ ?_ _ | refine qv_ ?_ | refine qw_ ?_ _)); exact BK220.out) hb)
          have n15_ := qm_ (qh_ (by repeat (first | (with_reducible first | exact HB.out | apply qc_ | apply qx_ | apply qf_ | refine qg_ ?_ GE187.out | refine qg_ ?_ GE188.out | refine qg_ ?_ GE204.out | refine qg_ ?_ GE209.out | refine qg_ ?_ GE214.out | refine qg_ ?_ GE220.out) | exact HB.out)) hb)
          have z_BK253 := fun (h0_ : b 8 = true) (h1_ : b 9 = false) => (show w110.heap[gb253]? = some (.cells #[.int .i64 0, .slice none 0 0] 24 (0, 0)) from by first | exact (qs_ (g := gb253) (o := .cells #[.int .i64 0, .slice none 0 0] 24 (0, 0)) (by (with_reducible repeat (first | refine qu_ ?_ _ | refine qv_ ?_ | refine qw_ ?_ _)); exact (Q_BK253 h0_ h1_)) hb))
          clear HO194
          clear HO198
          clear HO202
          clear HO208
          clear HO213
          clear HO218
          clear HO225
          clear HO230
          clear BK187
          clear BK188
          clear BK204
          clear BK209
          clear BK214
          clear BK220
          clear HB
          have HO194 := n0_
          have HO198 := n1_
          have HO202 := n2_
          have HO208 := n3_
          have HO213 := n4_
          have HO218 := n5_
          have HO225 := n6_
          have HO230 := n7_
          have HO243 := n8_
          have BK187 := n9_
          have BK188 := n10_
          have BK204 := n11_
          have BK209 := n12_
          have BK214 := n13_
          have BK220 := n14_
          have HB := n15_
          clear n0_ n1_ n2_ n3_ n4_ n5_ n6_ n7_ n8_ n9_ n10_ n11_ n12_ n13_ n14_ n15_
          (try clear hb)
          (try clear hb2)
          (try clear hk)
          (try clear hi)
          (try clear ho0)
          refine hK.out _ _ ⟨v242, v246, v250, gb253, (.agg #[.int .i64 t240, v242]), m3_, m4_, m5_, m6_, m8_, (by rw [ha.out]; exact putSel_upk 1 hb_ rfl rfl rfl), (by (with_reducible repeat (first | apply qa_ | apply qn_ | apply qd_)); exact Kd.R_mono HO194.out (fun _ hk => by simp only [hk, and_self, ne_eq, not_false_eq_true])), (by (with_reducible repeat (first | apply qa_ | apply qn_ | apply qd_)); exact Kd.R_mono HO198.out (fun _ hk => by simp only [hk, and_self, ne_eq, not_false_eq_true])), (by (with_reducible repeat (first | apply qa_ | apply qn_ | apply qd_)); exact Kd.R_mono HO202.out (fun _ hk => by simp only [hk, and_self, ne_eq, not_false_eq_true])), (by (with_reducible repeat (first | apply qa_ | apply qn_ | apply qd_)); exact Kd.R_mono HO208.out (fun _ hk => by simp only [hk, and_self, ne_eq, not_false_eq_true])), (by (with_reducible repeat (first | apply qa_ | apply qn_ | apply qd_)); exact Kd.R_mono HO213.out (fun _ hk => by simp only [hk, and_self, ne_eq, not_false_eq_true])), (by (with_reducible repeat (first | apply qa_ | apply qn_ | apply qd_)); exact Kd.R_mono HO218.out (fun _ hk => by simp only [hk, and_self, ne_eq, not_false_eq_true])), (by (with_reducible repeat (first | apply qa_ | apply qn_ | apply qd_)); exact Kd.R_mono HO225.out (fun _ hk => by simp only [hk, and_self, ne_eq, not_false_eq_true])), (by (with_reducible repeat (first | apply qa_ | apply qn_ | apply qd_)); exact Kd.R_mono HO230.out (fun _ hk => by simp only [hk, and_self, ne_eq, not_false_eq_true])), (by (with_reducible repeat (first | refine qu_ ?_ _ | refine qv_ ?_ | refine qw_ ?_ _)); exact BK187.out), (by (with_reducible repeat (first | refine qu_ ?_ _ | refine qv_ ?_ | refine qw_ ?_ _)); exact BK188.out), (by (with_reducible repeat (first | refine qu_ ?_ _ | refine qv_ ?_ | refine qw_ ?_ _)); exact BK204.out), (by (with_reducible repeat (first | refine qu_ ?_ _ | refine qv_ ?_ | refine qw_ ?_ _)); exact BK209.out), (by (with_reducible repeat (first | refine qu_ ?_ _ | refine qv_ ?_ | refine qw_ ?_ _)); exact BK214.out), (by (with_reducible repeat (first | refine qu_ ?_ _ | refine qv_ ?_ | refine qw_ ?_ _)); exact BK220.out), (by repeat (first | (with_reducible first | exact HB.out | apply qc_ | apply qx_ | apply qf_ | refine qg_ ?_ GE187.out | refine qg_ ?_ GE188.out | refine qg_ ?_ GE204.out | refine qg_ ?_ GE209.out | refine qg_ ?_ GE214.out | refine qg_ ?_ GE220.out) | exact HB.out)), fun _ => (by (with_reducible repeat (first | apply qa_ | apply qn_ | apply qd_)); exact Kd.R_mono HO243.out (fun _ hk => ⟨hk.1.1.1.1.1.1.1.2, ⟨hk.1.1.1.1.1.1.2, ⟨hk.1.1.1.1.1.2, ⟨hk.1.1.1.1.2, ⟨hk.1.1.1.2, ⟨hk.1.1.2, ⟨hk.1.2, hk.2⟩⟩⟩⟩⟩⟩⟩)), fun h0_ => absurd ((hoff 3 (by kernel_rfl)).symm.trans h0_) (by decide), fun h0_ => absurd ((hoff 4 (by kernel_rfl)).symm.trans h0_) (by decide), z_BK253, Q_GW253, Q_GE253, Q_NB187_253, Q_NB253_187, Q_NB188_253, Q_NB253_188, Q_NB204_253, Q_NB253_204, Q_NB209_253, Q_NB253_209, Q_NB214_253, Q_NB253_214, Q_NB220_253, Q_NB253_220, fun h0_ => absurd ((hoff 9 (by kernel_rfl)).symm.trans h0_) (by decide), fun _ => rfl, fun h0_ => absurd ((hoff 3 (by kernel_rfl)).symm.trans h0_) (by decide), fun h0_ => absurd ((hoff 4 (by kernel_rfl)).symm.trans h0_) (by decide), fun h0_ => absurd ((hoff 5 (by kernel_rfl)).symm.trans h0_) (by decide), fun h0_ => absurd ((hoff 6 (by kernel_rfl)).symm.trans h0_) (by decide), Q_X8_⟩
         refine steps_cons ?_ ?_
         ·rintro b a w' ⟨v242, v246, v250, gb253, m1_, m3_, m4_, m5_, m6_, m8_, ha, Q_HO194, Q_HO198, Q_HO202, Q_HO208, Q_HO213, Q_HO218, Q_HO225, Q_HO230, Q_BK187, Q_BK188, Q_BK204, Q_BK209, Q_BK214, Q_BK220, Q_HB, Q_HO243, Q_HO247, Q_HO251, Q_BK253, Q_GW253, Q_GE253, Q_NB187_253, Q_NB253_187, Q_NB188_253, Q_NB253_188, Q_NB204_253, Q_NB253_204, Q_NB209_253, Q_NB253_209, Q_NB214_253, Q_NB253_214, Q_NB220_253, Q_NB253_220, Q_BK253_e9, Q_X1_, Q_X3_, Q_X4_, Q_X5_, Q_X6_, Q_X8_⟩ hb_ hon hoff
          refine ⟨_, rfl, fun K hK => ?_⟩
          have e3 : a.tmps[3]? = some (.pointer (some ⟨gb188, 0, none⟩)) := by rw [ha]; exact (putSel_off rfl).trans rfl
          replace ha := qm_ ha
          have HO194 := qm_ Q_HO194
          have HO198 := qm_ Q_HO198
          have HO202 := qm_ Q_HO202
          have HO208 := qm_ Q_HO208
          have HO213 := qm_ Q_HO213
          have HO218 := qm_ Q_HO218
          have HO225 := qm_ Q_HO225
          have HO230 := qm_ Q_HO230
          have BK187 := qm_ Q_BK187
          have BK188 := qm_ Q_BK188
          have BK204 := qm_ Q_BK204
          have BK209 := qm_ Q_BK209
          have BK214 := qm_ Q_BK214
          have BK220 := qm_ Q_BK220
          have HB := qm_ Q_HB
          have hc0_ : w'.cell? ⟨gb188, 0, none⟩ = some (.int .i64 a1_0) := (blk_cell BK188.out 0).trans rfl
          have hc1_ : w'.cell? ⟨gb188, 1, none⟩ = some (.slice A1_1 l1_1.length c1_1) := (blk_cell BK188.out 1).trans rfl
          refine value_ (w1 := w') (v := .agg #[.int .i64 a1_0, .slice A1_1 l1_1.length c1_1]) (by rfl) rfl ?_ ?_
          ·go_simp
           (try simp only [i64_w])
           try rfl
          refine hK.out _ _ ⟨v242, v246, v250, gb253, m1_, m3_, m4_, m5_, m6_, m8_, (by rw [ha.out]; exact putSel_upk 2 hb_ rfl rfl rfl), Q_HO194, Q_HO198, Q_HO202, Q_HO208, Q_HO213, Q_HO218, Q_HO225, Q_HO230, Q_BK187, Q_BK188, Q_BK204, Q_BK209, Q_BK214, Q_BK220, Q_HB, Q_HO243, fun h0_ => absurd ((hoff 3 (by kernel_rfl)).symm.trans h0_) (by decide), fun h0_ => absurd ((hoff 4 (by kernel_rfl)).symm.trans h0_) (by decide), Q_BK253, Q_GW253, Q_GE253, Q_NB187_253, Q_NB253_187, Q_NB188_253, Q_NB253_188, Q_NB204_253, Q_NB253_204, Q_NB209_253, Q_NB253_209, Q_NB214_253, Q_NB253_214, Q_NB220_253, Q_NB253_220, fun h0_ => absurd ((hoff 9 (by kernel_rfl)).symm.trans h0_) (by decide), Q_X1_, fun h0_ => absurd ((hoff 3 (by kernel_rfl)).symm.trans h0_) (by decide), fun h0_ => absurd ((hoff 4 (by kernel_rfl)).symm.trans h0_) (by decide), fun h0_ => absurd ((hoff 5 (by kernel_rfl)).symm.trans h0_) (by decide), fun h0_ => absurd ((hoff 6 (by kernel_rfl)).symm.trans h0_) (by decide), Q_X8_⟩
         refine steps_cons ?_ ?_
         ·rintro b a w' ⟨v242, v246, v250, gb253, m1_, m3_, m4_, m5_, m6_, m8_, ha, Q_HO194, Q_HO198, Q_HO202, Q_HO208, Q_HO213, Q_HO218, Q_HO225, Q_HO230, Q_BK187, Q_BK188, Q_BK204, Q_BK209, Q_BK214, Q_BK220, Q_HB, Q_HO243, Q_HO247, Q_HO251, Q_BK253, Q_GW253, Q_GE253, Q_NB187_253, Q_NB253_187, Q_NB188_253, Q_NB253_188, Q_NB204_253, Q_NB253_204, Q_NB209_253, Q_NB253_209, Q_NB214_253, Q_NB253_214, Q_NB220_253, Q_NB253_220, Q_BK253_e9, Q_X1_, Q_X3_, Q_X4_, Q_X5_, Q_X6_, Q_X8_⟩ hb_ hon hoff
          refine ⟨_, rfl, fun K hK => ?_⟩
          have e97 : a.tmps[97]? = some (.agg #[.int .i64 a1_0, .slice A1_1 l1_1.length c1_1]) := by rw [ha]; exact putSel_on (e := (2, 97, .agg #[.int .i64 a1_0, .slice A1_1 l1_1.length c1_1])) 2 rfl rfl (hon 2 (by kernel_rfl)) rfl
          replace ha := qm_ ha
          have HO194 := qm_ Q_HO194
          have HO198 := qm_ Q_HO198
          have HO202 := qm_ Q_HO202
          have HO208 := qm_ Q_HO208
          have HO213 := qm_ Q_HO213
          have HO218 := qm_ Q_HO218
          have HO225 := qm_ Q_HO225
          have HO230 := qm_ Q_HO230
          have BK187 := qm_ Q_BK187
          have BK188 := qm_ Q_BK188
          have BK204 := qm_ Q_BK204
          have BK209 := qm_ Q_BK209
          have BK214 := qm_ Q_BK214
          have BK220 := qm_ Q_BK220
          have HB := qm_ Q_HB
          have HO243 := qm_ (Q_HO243 (hon 1 (by kernel_rfl)))
          refine goes_ Try.func24 (by kernel_rfl) rfl #[.agg #[.int .i64 a1_0, .slice A1_1 l1_1.length c1_1]] (by rfl) rfl rfl (by first | (simp only [List.map_toArray, List.map_cons, List.map_nil, Act.eval, Array.getD_eq_getD_getElem?, Option.getD_some, e97]; done) | (simp only [List.map_toArray, List.map_cons, List.map_nil, Act.eval, Array.getD_eq_getD_getElem?, Option.getD_some, e97]; rfl)) ?_
          with_reducible refine (laws_toBits.calls k a1_0 _ _ l1_1 t244 t245 _ ?side1 ?side2 A32.out).mono ?_
          (case side1 => repeat (first | exact (Kd.C_below HR1_1.out HB.out) | (with_reducible refine Kd.C_alloc ?_ _) | (with_reducible refine Kd.C_drewN ?_ _) | (with_reducible refine Kd.C_drew ?_)))
          (case side2 => exact HC1_1.out)
          rintro e w112 ⟨v246, rfl, ho0, hb⟩
          refine ⟨_, rfl, ?_⟩
          have n0_ := qm_ (Kd.R_elder' (by (with_reducible repeat (first | apply qa_ | apply qn_ | apply qd_)); exact HO194.out) (Kd.R_base ho0) hb)
          have n1_ := qm_ (Kd.R_elder' (by (with_reducible repeat (first | apply qa_ | apply qn_ | apply qd_)); exact HO198.out) (Kd.R_base ho0) hb)
          have n2_ := qm_ (Kd.R_elder' (by (with_reducible repeat (first | apply qa_ | apply qn_ | apply qd_)); exact HO202.out) (Kd.R_base ho0) hb)
          have n3_ := qm_ (Kd.R_elder' (by (with_reducible repeat (first | apply qa_ | apply qn_ | apply qd_)); exact HO208.out) (Kd.R_base ho0) hb)
          have n4_ := qm_ (Kd.R_elder' (by (with_reducible repeat (first | apply qa_ | apply qn_ | apply qd_)); exact HO213.out) (Kd.R_base ho0) hb)
          have n5_ := qm_ (Kd.R_elder' (by (with_reducible repeat (first | apply qa_ | apply qn_ | apply qd_)); exact HO218.out) (Kd.R_base ho0) hb)
          have n6_ := qm_ (Kd.R_elder' (by (with_reducible repeat (first | apply qa_ | apply qn_ | apply qd_)); exact HO225.out) (Kd.R_base ho0) hb)
          have n7_ := qm_ (Kd.R_elder' (by (with_reducible repeat (first | apply qa_ | apply qn_ | apply qd_)); exact HO230.out) (Kd.R_base ho0) hb)
          have n8_ := qm_ (Kd.R_elder' (by (with_reducible repeat (first | apply qa_ | apply qn_ | apply qd_)); exact HO243.out) (Kd.R_base ho0) hb)
          have n9_ := qm_ (ql_ (qe_ (qe_ (qe_ (qe_ (qe_ (qe_ (qe_ (qe_ (qe_ ho0 (qt_ (by (with_reducible repeat (first | apply qa_ | apply qn_ | apply qd_)); exact HO194.out))) (qt_ (by (with_reducible repeat (first | apply qa_ | apply qn_ | apply qd_)); exact HO198.out))) (qt_ (by (with_reducible repeat (first | apply qa_ | apply qn_ | apply qd_)); exact HO202.out))) (qt_ (by (with_reducible repeat (first | apply qa_ | apply qn_ | apply qd_)); exact HO208.out))) (qt_ (by (with_reducible repeat (first | apply qa_ | apply qn_ | apply qd_)); exact HO213.out))) (qt_ (by (with_reducible repeat (first | apply qa_ | apply qn_ | apply qd_)); exact HO218.out))) (qt_ (by (with_reducible repeat (first | apply qa_ | apply qn_ | apply qd_)); exact HO225.out))) (qt_ (by (with_reducible repeat (first | apply qa_ | apply qn_ | apply qd_)); exact HO230.out))) (qt_ (by (with_reducible repeat (first | apply qa_ | apply qn_ | apply qd_)); exact HO243.out))) (qz_ (by repeat (first | (with_reducible first | exact HB.out | apply qc_ | apply qx_ | apply qf_ | refine qg_ ?_ GE187.out | refine qg_ ?_ GE188.out | refine qg_ ?_ GE204.out | refine qg_ ?_ GE209.out | refine qg_ ?_ GE214.out | refine qg_ ?_ GE220.out) | exact HB.out))))
          have n10_ := qm_ (qs_ (g := gb187) (o := .cells #[.int .i64 a0_0, .slice A0_1 l0_1.length c0_1] 34 (0, 0)) (by (with_reducible repeat (first | refine qu_ ?_ _ | refine qv_ ?_ | refine qw_ ?_ _)); exact BK187.out) hb)
          have n11_ := qm_ (qs_ (g := gb188) (o := .cells #[.int .i64 a1_0, .slice A1_1 l1_1.length c1_1] 34 (0, 0)) (by (with_reducible repeat (first | refine qu_ ?_ _ | refine qv_ ?_ | refine qw_ ?_ _)); exact BK188.out) hb)
          have n12_ := qm_ (qs_ (g := gb204) (o := .cells #[.int .i64 t199, .slice Ao88 t200.length co88] 24 (0, 0)) (by (with_reducible repeat (first | refine qu_ ?_ _ | refine qv_ ?_ | refine qw_ ?_ _)); exact BK204.out) hb)
          have n13_ := qm_ (qs_ (g := gb209) (o := .cells #[.int .i64 t205, .slice Ao66 t206.length co66] 24 (0, 0)) (by (with_reducible repeat (first | refine qu_ ?_ _ | refine qv_ ?_ | refine qw_ ?_ _)); exact BK209.out) hb)
          have n14_ := qm_ (qs_ (g := gb214) (o := .cells #[.int .i64 t210, .slice Ao76 t211.length co76] 24 (0, 0)) (by (with_reducible repeat (first | refine qu_ ?_ _ | refine qv_ ?_ | refine qw_ ?_ _)); exact BK214.out) hb)
          have n15_ := qm_ (qs_ (g := gb220) (o := .cells #[.int .i64 t215, .slice Ao86 t216.length co86] 24 (0, 0)) (by (with_reducible repeat (first | refine qu_ ?_ _ | refine qv_ ?_ | refine qw_ ?_ _)); exact BK220.out) hb)
          have n16_ := qm_ (qh_ (by repeat (first | (with_reducible first | exact HB.out | apply qc_ | apply qx_ | apply qf_ | refine qg_ ?_ GE187.out | refine qg_ ?_ GE188.out | refine qg_ ?_ GE204.out | refine qg_ ?_ GE209.out | refine qg_ ?_ GE214.out | refine qg_ ?_ GE220.out) | exact HB.out)) hb)
          have z_BK253 := fun (h0_ : b 8 = true) (h1_ : b 9 = false) => (show w112.heap[gb253]? = some (.cells #[.int .i64 0, .slice none 0 0] 24 (0, 0)) from by first | exact (qs_ (g := gb253) (o := .cells #[.int .i64 0, .slice none 0 0] 24 (0, 0)) (by (with_reducible repeat (first | refine qu_ ?_ _ | refine qv_ ?_ | refine qw_ ?_ _)); exact (Q_BK253 h0_ h1_)) hb))
          clear HO194
          clear HO198
          clear HO202
          clear HO208
          clear HO213
          clear HO218
          clear HO225
          clear HO230
          clear HO243
          clear BK187
          clear BK188
          clear BK204
          clear BK209
          clear BK214
          clear BK220
          clear HB
          have HO194 := n0_
          have HO198 := n1_
          have HO202 := n2_
          have HO208 := n3_
          have HO213 := n4_
          have HO218 := n5_
          have HO225 := n6_
          have HO230 := n7_
          have HO243 := n8_
          have HO247 := n9_
          have BK187 := n10_
          have BK188 := n11_
          have BK204 := n12_
          have BK209 := n13_
          have BK214 := n14_
          have BK220 := n15_
          have HB := n16_
          clear n0_ n1_ n2_ n3_ n4_ n5_ n6_ n7_ n8_ n9_ n10_ n11_ n12_ n13_ n14_ n15_ n16_
          (try clear hb)
          (try clear hb2)
          (try clear hk)
          (try clear hi)
          (try clear ho0)
          refine hK.out _ _ ⟨v242, v246, v250, gb253, m1_, (.agg #[.int .i64 t244, v246]), m4_, m5_, m6_, m8_, (by rw [ha.out]; exact putSel_upk 3 hb_ rfl rfl rfl), (by (with_reducible repeat (first | apply qa_ | apply qn_ | apply qd_)); exact Kd.R_mono HO194.out (fun _ hk => by simp only [hk, and_self, ne_eq, not_false_eq_true])), (by (with_reducible repeat (first | apply qa_ | apply qn_ | apply qd_)); exact Kd.R_mono HO198.out (fun _ hk => by simp only [hk, and_self, ne_eq, not_false_eq_true])), (by (with_reducible repeat (first | apply qa_ | apply qn_ | apply qd_)); exact Kd.R_mono HO202.out (fun _ hk => by simp only [hk, and_self, ne_eq, not_false_eq_true])), (by (with_reducible repeat (first | apply qa_ | apply qn_ | apply qd_)); exact Kd.R_mono HO208.out (fun _ hk => by simp only [hk, and_self, ne_eq, not_false_eq_true])), (by (with_reducible repeat (first | apply qa_ | apply qn_ | apply qd_)); exact Kd.R_mono HO213.out (fun _ hk => by simp only [hk, and_self, ne_eq, not_false_eq_true])), (by (with_reducible repeat (first | apply qa_ | apply qn_ | apply qd_)); exact Kd.R_mono HO218.out (fun _ hk => by simp only [hk, and_self, ne_eq, not_false_eq_true])), (by (with_reducible repeat (first | apply qa_ | apply qn_ | apply qd_)); exact Kd.R_mono HO225.out (fun _ hk => by simp only [hk, and_self, ne_eq, not_false_eq_true])), (by (with_reducible repeat (first | apply qa_ | apply qn_ | apply qd_)); exact Kd.R_mono HO230.out (fun _ hk => by simp only [hk, and_self, ne_eq, not_false_eq_true])), (by (with_reducible repeat (first | refine qu_ ?_ _ | refine qv_ ?_ | refine qw_ ?_ _)); exact BK187.out), (by (with_reducible repeat (first | refine qu_ ?_ _ | refine qv_ ?_ | refine qw_ ?_ _)); exact BK188.out), (by (with_reducible repeat (first | refine qu_ ?_ _ | refine qv_ ?_ | refine qw_ ?_ _)); exact BK204.out), (by (with_reducible repeat (first | refine qu_ ?_ _ | refine qv_ ?_ | refine qw_ ?_ _)); exact BK209.out), (by (with_reducible repeat (first | refine qu_ ?_ _ | refine qv_ ?_ | refine qw_ ?_ _)); exact BK214.out), (by (with_reducible repeat (first | refine qu_ ?_ _ | refine qv_ ?_ | refine qw_ ?_ _)); exact BK220.out), (by repeat (first | (with_reducible first | exact HB.out | apply qc_ | apply qx_ | apply qf_ | refine qg_ ?_ GE187.out | refine qg_ ?_ GE188.out | refine qg_ ?_ GE204.out | refine qg_ ?_ GE209.out | refine qg_ ?_ GE214.out | refine qg_ ?_ GE220.out) | exact HB.out)), fun _ => (by (with_reducible repeat (first | apply qa_ | apply qn_ | apply qd_)); exact Kd.R_mono HO243.out (fun _ hk => by simp only [hk, and_self, ne_eq, not_false_eq_true])), fun _ => (by (with_reducible repeat (first | apply qa_ | apply qn_ | apply qd_)); exact Kd.R_mono HO247.out (fun _ hk => by simp only [hk, and_self, ne_eq, not_false_eq_true])), fun h0_ => absurd ((hoff 4 (by kernel_rfl)).symm.trans h0_) (by decide), z_BK253, Q_GW253, Q_GE253, Q_NB187_253, Q_NB253_187, Q_NB188_253, Q_NB253_188, Q_NB204_253, Q_NB253_204, Q_NB209_253, Q_NB253_209, Q_NB214_253, Q_NB253_214, Q_NB220_253, Q_NB253_220, fun h0_ => absurd ((hoff 9 (by kernel_rfl)).symm.trans h0_) (by decide), Q_X1_, fun _ => rfl, fun h0_ => absurd ((hoff 4 (by kernel_rfl)).symm.trans h0_) (by decide), fun h0_ => absurd ((hoff 5 (by kernel_rfl)).symm.trans h0_) (by decide), fun h0_ => absurd ((hoff 6 (by kernel_rfl)).symm.trans h0_) (by decide), Q_X8_⟩
         refine steps_cons ?_ ?_
         ·rintro b a w' ⟨v242, v246, v250, gb253, m1_, m3_, m4_, m5_, m6_, m8_, ha, Q_HO194, Q_HO198, Q_HO202, Q_HO208, Q_HO213, Q_HO218, Q_HO225, Q_HO230, Q_BK187, Q_BK188, Q_BK204, Q_BK209, Q_BK214, Q_BK220, Q_HB, Q_HO243, Q_HO247, Q_HO251, Q_BK253, Q_GW253, Q_GE253, Q_NB187_253, Q_NB253_187, Q_NB188_253, Q_NB253_188, Q_NB204_253, Q_NB253_204, Q_NB209_253, Q_NB253_209, Q_NB214_253, Q_NB253_214, Q_NB220_253, Q_NB253_220, Q_BK253_e9, Q_X1_, Q_X3_, Q_X4_, Q_X5_, Q_X6_, Q_X8_⟩ hb_ hon hoff
          refine ⟨_, rfl, fun K hK => ?_⟩
          have e96 : a.tmps[96]? = some (m1_) := by rw [ha]; exact putSel_on (e := (1, 96, m1_)) 1 rfl rfl (hon 1 (by kernel_rfl)) rfl
          rw [Q_X1_ (hon 1 (by kernel_rfl))] at e96
          have e98 : a.tmps[98]? = some (m3_) := by rw [ha]; exact putSel_on (e := (3, 98, m3_)) 3 rfl rfl (hon 3 (by kernel_rfl)) rfl
          rw [Q_X3_ (hon 3 (by kernel_rfl))] at e98
          replace ha := qm_ ha
          have HO194 := qm_ Q_HO194
          have HO198 := qm_ Q_HO198
          have HO202 := qm_ Q_HO202
          have HO208 := qm_ Q_HO208
          have HO213 := qm_ Q_HO213
          have HO218 := qm_ Q_HO218
          have HO225 := qm_ Q_HO225
          have HO230 := qm_ Q_HO230
          have BK187 := qm_ Q_BK187
          have BK188 := qm_ Q_BK188
          have BK204 := qm_ Q_BK204
          have BK209 := qm_ Q_BK209
          have BK214 := qm_ Q_BK214
          have BK220 := qm_ Q_BK220
          have HB := qm_ Q_HB
          have HO243 := qm_ (Q_HO243 (hon 1 (by kernel_rfl)))
          have HO247 := qm_ (Q_HO247 (hon 3 (by kernel_rfl)))
          obtain ⟨Ao113, co113, eo113⟩ := Kd.R_slice HO243.out
          (first | subst eo113 | (injection eo113 with f1_ f2_ f3_; have f4_ := f1_.symm; have f5_ := f3_.symm; clear f1_ f2_ f3_; subst f4_; subst f5_))
          obtain ⟨Ao114, co114, eo114⟩ := Kd.R_slice HO247.out
          (first | subst eo114 | (injection eo114 with f1_ f2_ f3_; have f4_ := f1_.symm; have f5_ := f3_.symm; clear f1_ f2_ f3_; subst f4_; subst f5_))
          refine goes_ Try.func39 (by kernel_rfl) rfl #[.agg #[.int .i64 t240, .slice Ao113 t241.length co113], .agg #[.int .i64 t244, .slice Ao114 t245.length co114]] (by rfl) rfl rfl (by first | (simp only [List.map_toArray, List.map_cons, List.map_nil, Act.eval, Array.getD_eq_getD_getElem?, Option.getD_some, e96, e98]; done) | (simp only [List.map_toArray, List.map_cons, List.map_nil, Act.eval, Array.getD_eq_getD_getElem?, Option.getD_some, e96, e98]; rfl)) ?_
          with_reducible refine (impl_BothBits.calls k t240 _ _ t241 t244 _ _ t245 t248 t249 t252 _ ?side1 ?side2 ?side3 ?side4 A33.out).mono ?_
          (case side1 => repeat (first | exact (Kd.R_reads' HO243.out).2.2 | (with_reducible refine Kd.C_alloc ?_ _) | (with_reducible refine Kd.C_drewN ?_ _) | (with_reducible refine Kd.C_drew ?_)))
          (case side2 => exact (Kd.R_reads' HO243.out).2.1)
          (case side3 => repeat (first | exact (Kd.R_reads' HO247.out).2.2 | (with_reducible refine Kd.C_alloc ?_ _) | (with_reducible refine Kd.C_drewN ?_ _) | (with_reducible refine Kd.C_drew ?_)))
          (case side4 => exact (Kd.R_reads' HO247.out).2.1)
          rintro e w115 ⟨v250, rfl, ho0, hb⟩
          refine ⟨_, rfl, ?_⟩
          have n0_ := qm_ (Kd.R_elder' (by (with_reducible repeat (first | apply qa_ | apply qn_ | apply qd_)); exact HO194.out) (Kd.R_base ho0) hb)
          have n1_ := qm_ (Kd.R_elder' (by (with_reducible repeat (first | apply qa_ | apply qn_ | apply qd_)); exact HO198.out) (Kd.R_base ho0) hb)
          have n2_ := qm_ (Kd.R_elder' (by (with_reducible repeat (first | apply qa_ | apply qn_ | apply qd_)); exact HO202.out) (Kd.R_base ho0) hb)
          have n3_ := qm_ (Kd.R_elder' (by (with_reducible repeat (first | apply qa_ | apply qn_ | apply qd_)); exact HO208.out) (Kd.R_base ho0) hb)
          have n4_ := qm_ (Kd.R_elder' (by (with_reducible repeat (first | apply qa_ | apply qn_ | apply qd_)); exact HO213.out) (Kd.R_base ho0) hb)
          have n5_ := qm_ (Kd.R_elder' (by (with_reducible repeat (first | apply qa_ | apply qn_ | apply qd_)); exact HO218.out) (Kd.R_base ho0) hb)
          have n6_ := qm_ (Kd.R_elder' (by (with_reducible repeat (first | apply qa_ | apply qn_ | apply qd_)); exact HO225.out) (Kd.R_base ho0) hb)
          have n7_ := qm_ (Kd.R_elder' (by (with_reducible repeat (first | apply qa_ | apply qn_ | apply qd_)); exact HO230.out) (Kd.R_base ho0) hb)
          have n8_ := qm_ (Kd.R_elder' (by (with_reducible repeat (first | apply qa_ | apply qn_ | apply qd_)); exact HO243.out) (Kd.R_base ho0) hb)
          have n9_ := qm_ (Kd.R_elder' (by (with_reducible repeat (first | apply qa_ | apply qn_ | apply qd_)); exact HO247.out) (Kd.R_base ho0) hb)
          have n10_ := qm_ (ql_ (qe_ (qe_ (qe_ (qe_ (qe_ (qe_ (qe_ (qe_ (qe_ (qe_ ho0 (qt_ (by (with_reducible repeat (first | apply qa_ | apply qn_ | apply qd_)); exact HO194.out))) (qt_ (by (with_reducible repeat (first | apply qa_ | apply qn_ | apply qd_)); exact HO198.out))) (qt_ (by (with_reducible repeat (first | apply qa_ | apply qn_ | apply qd_)); exact HO202.out))) (qt_ (by (with_reducible repeat (first | apply qa_ | apply qn_ | apply qd_)); exact HO208.out))) (qt_ (by (with_reducible repeat (first | apply qa_ | apply qn_ | apply qd_)); exact HO213.out))) (qt_ (by (with_reducible repeat (first | apply qa_ | apply qn_ | apply qd_)); exact HO218.out))) (qt_ (by (with_reducible repeat (first | apply qa_ | apply qn_ | apply qd_)); exact HO225.out))) (qt_ (by (with_reducible repeat (first | apply qa_ | apply qn_ | apply qd_)); exact HO230.out))) (qt_ (by (with_reducible repeat (first | apply qa_ | apply qn_ | apply qd_)); exact HO243.out))) (qt_ (by (with_reducible repeat (first | apply qa_ | apply qn_ | apply qd_)); exact HO247.out))) (qz_ (by repeat (first | (with_reducible first | exact HB.out | apply qc_ | apply qx_ | apply qf_ | refine qg_ ?_ GE187.out | refine qg_ ?_ GE188.out | refine qg_ ?_ GE204.out | refine qg_ ?_ GE209.out | refine qg_ ?_ GE214.out | refine qg_ ?_ GE220.out) | exact HB.out))))
          have n11_ := qm_ (qs_ (g := gb187) (o := .cells #[.int .i64 a0_0, .slice A0_1 l0_1.length c0_1] 34 (0, 0)) (by (with_reducible repeat (first | refine qu_ ?_ _ | refine qv_ ?_ | refine qw_ ?_ _)); exact BK187.out) hb)
          have n12_ := qm_ (qs_ (g := gb188) (o := .cells #[.int .i64 a1_0, .slice A1_1 l1_1.length c1_1] 34 (0, 0)) (by (with_reducible repeat (first | refine qu_ ?_ _ | refine qv_ ?_ | refine qw_ ?_ _)); exact BK188.out) hb)
          have n13_ := qm_ (qs_ (g := gb204) (o := .cells #[.int .i64 t199, .slice Ao88 t200.length co88] 24 (0, 0)) (by (with_reducible repeat (first | refine qu_ ?_ _ | refine qv_ ?_ | refine qw_ ?_ _)); exact BK204.out) hb)
          have n14_ := qm_ (qs_ (g := gb209) (o := .cells #[.int .i64 t205, .slice Ao66 t206.length co66] 24 (0, 0)) (by (with_reducible repeat (first | refine qu_ ?_ _ | refine qv_ ?_ | refine qw_ ?_ _)); exact BK209.out) hb)
          have n15_ := qm_ (qs_ (g := gb214) (o := .cells #[.int .i64 t210, .slice Ao76 t211.length co76] 24 (0, 0)) (by (with_reducible repeat (first | refine qu_ ?_ _ | refine qv_ ?_ | refine qw_ ?_ _)); exact BK214.out) hb)
          have n16_ := qm_ (qs_ (g := gb220) (o := .cells #[.int .i64 t215, .slice Ao86 t216.length co86] 24 (0, 0)) (by (with_reducible repeat (first | refine qu_ ?_ _ | refine qv_ ?_ | refine qw_ ?_ _)); exact BK220.out) hb)
          have n17_ := qm_ (qh_ (by repeat (first | (with_reducible first | exact HB.out | apply qc_ | apply qx_ | apply qf_ | refine qg_ ?_ GE187.out | refine qg_ ?_ GE188.out | refine qg_ ?_ GE204.out | refine qg_ ?_ GE209.out | refine qg_ ?_ GE214.out | refine qg_ ?_ GE220.out) | exact HB.out)) hb)
          have z_BK253 := fun (h0_ : b 8 = true) (h1_ : b 9 = false) => (show w115.heap[gb253]? = some (.cells #[.int .i64 0, .slice none 0 0] 24 (0, 0)) from by first | exact (qs_ (g := gb253) (o := .cells #[.int .i64 0, .slice none 0 0] 24 (0, 0)) (by (with_reducible repeat (first | refine qu_ ?_ _ | refine qv_ ?_ | refine qw_ ?_ _)); exact (Q_BK253 h0_ h1_)) hb))
          clear HO194
          clear HO198
          clear HO202
          clear HO208
          clear HO213
          clear HO218
          clear HO225
          clear HO230
          clear HO243
          clear HO247
          clear BK187
          clear BK188
          clear BK204
          clear BK209
          clear BK214
          clear BK220
          clear HB
          have HO194 := n0_
          have HO198 := n1_
          have HO202 := n2_
          have HO208 := n3_
          have HO213 := n4_
          have HO218 := n5_
          have HO225 := n6_
          have HO230 := n7_
          have HO243 := n8_
          have HO247 := n9_
          have HO251 := n10_
          have BK187 := n11_
          have BK188 := n12_
          have BK204 := n13_
          have BK209 := n14_
          have BK214 := n15_
          have BK220 := n16_
          have HB := n17_
          clear n0_ n1_ n2_ n3_ n4_ n5_ n6_ n7_ n8_ n9_ n10_ n11_ n12_ n13_ n14_ n15_ n16_ n17_
          (try clear hb)
          (try clear hb2)
          (try clear hk)
          (try clear hi)
          (try clear ho0)
          refine hK.out _ _ ⟨.slice Ao113 t241.length co113, .slice Ao114 t245.length co114, v250, gb253, m1_, m3_, (.tuple #[.agg #[.int .i64 t248, v250], .bool t252]), m5_, m6_, m8_, (by rw [ha.out]; exact putSel_upk 4 hb_ rfl rfl rfl), (by (with_reducible repeat (first | apply qa_ | apply qn_ | apply qd_)); exact Kd.R_mono HO194.out (fun _ hk => by simp only [hk, and_self, ne_eq, not_false_eq_true])), (by (with_reducible repeat (first | apply qa_ | apply qn_ | apply qd_)); exact Kd.R_mono HO198.out (fun _ hk => by simp only [hk, and_self, ne_eq, not_false_eq_true])), (by (with_reducible repeat (first | apply qa_ | apply qn_ | apply qd_)); exact Kd.R_mono HO202.out (fun _ hk => by simp only [hk, and_self, ne_eq, not_false_eq_true])), (by (with_reducible repeat (first | apply qa_ | apply qn_ | apply qd_)); exact Kd.R_mono HO208.out (fun _ hk => by simp only [hk, and_self, ne_eq, not_false_eq_true])), (by (with_reducible repeat (first | apply qa_ | apply qn_ | apply qd_)); exact Kd.R_mono HO213.out (fun _ hk => by simp only [hk, and_self, ne_eq, not_false_eq_true])), (by (with_reducible repeat (first | apply qa_ | apply qn_ | apply qd_)); exact Kd.R_mono HO218.out (fun _ hk => by simp only [hk, and_self, ne_eq, not_false_eq_true])), (by (with_reducible repeat (first | apply qa_ | apply qn_ | apply qd_)); exact Kd.R_mono HO225.out (fun _ hk => by simp only [hk, and_self, ne_eq, not_false_eq_true])), (by (with_reducible repeat (first | apply qa_ | apply qn_ | apply qd_)); exact Kd.R_mono HO230.out (fun _ hk => by simp only [hk, and_self, ne_eq, not_false_eq_true])), (by (with_reducible repeat (first | refine qu_ ?_ _ | refine qv_ ?_ | refine qw_ ?_ _)); exact BK187.out), (by (with_reducible repeat (first | refine qu_ ?_ _ | refine qv_ ?_ | refine qw_ ?_ _)); exact BK188.out), (by (with_reducible repeat (first | refine qu_ ?_ _ | refine qv_ ?_ | refine qw_ ?_ _)); exact BK204.out), (by (with_reducible repeat (first | refine qu_ ?_ _ | refine qv_ ?_ | refine qw_ ?_ _)); exact BK209.out), (by (with_reducible repeat (first | refine qu_ ?_ _ | refine qv_ ?_ | refine qw_ ?_ _)); exact BK214.out), (by (with_reducible repeat (first | refine qu_ ?_ _ | refine qv_ ?_ | refine qw_ ?_ _)); exact BK220.out), (by repeat (first | (with_reducible first | exact HB.out | apply qc_ | apply qx_ | apply qf_ | refine qg_ ?_ GE187.out | refine qg_ ?_ GE188.out | refine qg_ ?_ GE204.out | refine qg_ ?_ GE209.out | refine qg_ ?_ GE214.out | refine qg_ ?_ GE220.out) | exact HB.out)), fun _ => (by (with_reducible repeat (first | apply qa_ | apply qn_ | apply qd_)); exact Kd.R_mono HO243.out (fun _ hk => by simp only [hk, and_self, ne_eq, not_false_eq_true])), fun _ => (by (with_reducible repeat (first | apply qa_ | apply qn_ | apply qd_)); exact Kd.R_mono HO247.out (fun _ hk => by simp only [hk, and_self, ne_eq, not_false_eq_true])), fun _ => (by (with_reducible repeat (first | apply qa_ | apply qn_ | apply qd_)); exact Kd.R_mono HO251.out (fun _ hk => by simp only [hk, and_self, ne_eq, not_false_eq_true])), z_BK253, Q_GW253, Q_GE253, Q_NB187_253, Q_NB253_187, Q_NB188_253, Q_NB253_188, Q_NB204_253, Q_NB253_204, Q_NB209_253, Q_NB253_209, Q_NB214_253, Q_NB253_214, Q_NB220_253, Q_NB253_220, fun h0_ => absurd ((hoff 9 (by kernel_rfl)).symm.trans h0_) (by decide), Q_X1_, Q_X3_, fun _ => rfl, fun h0_ => absurd ((hoff 5 (by kernel_rfl)).symm.trans h0_) (by decide), fun h0_ => absurd ((hoff 6 (by kernel_rfl)).symm.trans h0_) (by decide), Q_X8_⟩
         refine steps_cons ?_ ?_
         ·rintro b a w' ⟨v242, v246, v250, gb253, m1_, m3_, m4_, m5_, m6_, m8_, ha, Q_HO194, Q_HO198, Q_HO202, Q_HO208, Q_HO213, Q_HO218, Q_HO225, Q_HO230, Q_BK187, Q_BK188, Q_BK204, Q_BK209, Q_BK214, Q_BK220, Q_HB, Q_HO243, Q_HO247, Q_HO251, Q_BK253, Q_GW253, Q_GE253, Q_NB187_253, Q_NB253_187, Q_NB188_253, Q_NB253_188, Q_NB204_253, Q_NB253_204, Q_NB209_253, Q_NB253_209, Q_NB214_253, Q_NB253_214, Q_NB220_253, Q_NB253_220, Q_BK253_e9, Q_X1_, Q_X3_, Q_X4_, Q_X5_, Q_X6_, Q_X8_⟩ hb_ hon hoff
          refine ⟨_, rfl, fun K hK => ?_⟩
          have e99 : a.tmps[99]? = some (m4_) := by rw [ha]; exact putSel_on (e := (4, 99, m4_)) 4 rfl rfl (hon 4 (by kernel_rfl)) rfl
          rw [Q_X4_ (hon 4 (by kernel_rfl))] at e99
          replace ha := qm_ ha
          have HO194 := qm_ Q_HO194
          have HO198 := qm_ Q_HO198
          have HO202 := qm_ Q_HO202
          have HO208 := qm_ Q_HO208
          have HO213 := qm_ Q_HO213
          have HO218 := qm_ Q_HO218
          have HO225 := qm_ Q_HO225
          have HO230 := qm_ Q_HO230
          have BK187 := qm_ Q_BK187
          have BK188 := qm_ Q_BK188
          have BK204 := qm_ Q_BK204
          have BK209 := qm_ Q_BK209
          have BK214 := qm_ Q_BK214
          have BK220 := qm_ Q_BK220
          have HB := qm_ Q_HB
          have HO243 := qm_ (Q_HO243 (hon 1 (by kernel_rfl)))
          have HO247 := qm_ (Q_HO247 (hon 3 (by kernel_rfl)))
          have HO251 := qm_ (Q_HO251 (hon 4 (by kernel_rfl)))
          refine value_ (w1 := w') (v := .tuple #[.agg #[.int .i64 t248, v250], .bool t252]) (by rfl) rfl ?_ ?_
          ·go_simp
           (try simp only [i64_w])
           try rfl
          refine hK.out _ _ ⟨v242, v246, v250, gb253, m1_, m3_, m4_, (.tuple #[.agg #[.int .i64 t248, v250], .bool t252]), m6_, m8_, (by rw [ha.out]; exact putSel_upk 5 hb_ rfl rfl rfl), Q_HO194, Q_HO198, Q_HO202, Q_HO208, Q_HO213, Q_HO218, Q_HO225, Q_HO230, Q_BK187, Q_BK188, Q_BK204, Q_BK209, Q_BK214, Q_BK220, Q_HB, Q_HO243, Q_HO247, Q_HO251, Q_BK253, Q_GW253, Q_GE253, Q_NB187_253, Q_NB253_187, Q_NB188_253, Q_NB253_188, Q_NB204_253, Q_NB253_204, Q_NB209_253, Q_NB253_209, Q_NB214_253, Q_NB253_214, Q_NB220_253, Q_NB253_220, fun h0_ => absurd ((hoff 9 (by kernel_rfl)).symm.trans h0_) (by decide), Q_X1_, Q_X3_, Q_X4_, fun _ => rfl, fun h0_ => absurd ((hoff 6 (by kernel_rfl)).symm.trans h0_) (by decide), Q_X8_⟩
         refine steps_cons ?_ ?_
         ·rintro b a w' ⟨v242, v246, v250, gb253, m1_, m3_, m4_, m5_, m6_, m8_, ha, Q_HO194, Q_HO198, Q_HO202, Q_HO208, Q_HO213, Q_HO218, Q_HO225, Q_HO230, Q_BK187, Q_BK188, Q_BK204, Q_BK209, Q_BK214, Q_BK220, Q_HB, Q_HO243, Q_HO247, Q_HO251, Q_BK253, Q_GW253, Q_GE253, Q_NB187_253, Q_NB253_187, Q_NB188_253, Q_NB253_188, Q_NB204_253, Q_NB253_204, Q_NB209_253, Q_NB253_209, Q_NB214_253, Q_NB253_214, Q_NB220_253, Q_NB253_220, Q_BK253_e9, Q_X1_, Q_X3_, Q_X4_, Q_X5_, Q_X6_, Q_X8_⟩ hb_ hon hoff
          refine ⟨_, rfl, fun K hK => ?_⟩
          have e94 : a.tmps[94]? = some (m5_) := by rw [ha]; exact putSel_on (e := (5, 94, m5_)) 5 rfl rfl (hon 5 (by kernel_rfl)) rfl
          rw [Q_X5_ (hon 5 (by kernel_rfl))] at e94
          replace ha := qm_ ha
          have HO194 := qm_ Q_HO194
          have HO198 := qm_ Q_HO198
          have HO202 := qm_ Q_HO202
          have HO208 := qm_ Q_HO208
          have HO213 := qm_ Q_HO213
          have HO218 := qm_ Q_HO218
          have HO225 := qm_ Q_HO225
          have HO230 := qm_ Q_HO230
          have BK187 := qm_ Q_BK187
          have BK188 := qm_ Q_BK188
          have BK204 := qm_ Q_BK204
          have BK209 := qm_ Q_BK209
          have BK214 := qm_ Q_BK214
          have BK220 := qm_ Q_BK220
          have HB := qm_ Q_HB
          have HO243 := qm_ (Q_HO243 (hon 1 (by kernel_rfl)))
          have HO247 := qm_ (Q_HO247 (hon 3 (by kernel_rfl)))
          have HO251 := qm_ (Q_HO251 (hon 4 (by kernel_rfl)))
          refine value_ (w1 := w') (v := .agg #[.int .i64 t248, v250]) (by rfl) rfl ?_ ?_
          ·go_simp
           (try simp only [i64_w])
           try rfl
          refine hK.out _ _ ⟨v242, v246, v250, gb253, m1_, m3_, m4_, m5_, (.agg #[.int .i64 t248, v250]), m8_, (by rw [ha.out]; exact putSel_upk 6 hb_ rfl rfl rfl), Q_HO194, Q_HO198, Q_HO202, Q_HO208, Q_HO213, Q_HO218, Q_HO225, Q_HO230, Q_BK187, Q_BK188, Q_BK204, Q_BK209, Q_BK214, Q_BK220, Q_HB, Q_HO243, Q_HO247, Q_HO251, Q_BK253, Q_GW253, Q_GE253, Q_NB187_253, Q_NB253_187, Q_NB188_253, Q_NB253_188, Q_NB204_253, Q_NB253_204, Q_NB209_253, Q_NB253_209, Q_NB214_253, Q_NB253_214, Q_NB220_253, Q_NB253_220, fun h0_ => absurd ((hoff 9 (by kernel_rfl)).symm.trans h0_) (by decide), Q_X1_, Q_X3_, Q_X4_, Q_X5_, fun _ => rfl, Q_X8_⟩
         refine steps_cons ?_ ?_
         ·rintro b a w' ⟨v242, v246, v250, gb253, m1_, m3_, m4_, m5_, m6_, m8_, ha, Q_HO194, Q_HO198, Q_HO202, Q_HO208, Q_HO213, Q_HO218, Q_HO225, Q_HO230, Q_BK187, Q_BK188, Q_BK204, Q_BK209, Q_BK214, Q_BK220, Q_HB, Q_HO243, Q_HO247, Q_HO251, Q_BK253, Q_GW253, Q_GE253, Q_NB187_253, Q_NB253_187, Q_NB188_253, Q_NB253_188, Q_NB204_253, Q_NB253_204, Q_NB209_253, Q_NB253_209, Q_NB214_253, Q_NB253_214, Q_NB220_253, Q_NB253_220, Q_BK253_e9, Q_X1_, Q_X3_, Q_X4_, Q_X5_, Q_X6_, Q_X8_⟩ hb_ hon hoff
          refine ⟨_, rfl, fun K hK => ?_⟩
          have e94 : a.tmps[94]? = some (m5_) := by rw [ha]; exact putSel_on (e := (5, 94, m5_)) 5 rfl rfl (hon 5 (by kernel_rfl)) rfl
          rw [Q_X5_ (hon 5 (by kernel_rfl))] at e94
          replace ha := qm_ ha
          have HO194 := qm_ Q_HO194
          have HO198 := qm_ Q_HO198
          have HO202 := qm_ Q_HO202
          have HO208 := qm_ Q_HO208
          have HO213 := qm_ Q_HO213
          have HO218 := qm_ Q_HO218
          have HO225 := qm_ Q_HO225
          have HO230 := qm_ Q_HO230
          have BK187 := qm_ Q_BK187
          have BK188 := qm_ Q_BK188
          have BK204 := qm_ Q_BK204
          have BK209 := qm_ Q_BK209
          have BK214 := qm_ Q_BK214
          have BK220 := qm_ Q_BK220
          have HB := qm_ Q_HB
          have HO243 := qm_ (Q_HO243 (hon 1 (by kernel_rfl)))
          have HO247 := qm_ (Q_HO247 (hon 3 (by kernel_rfl)))
          have HO251 := qm_ (Q_HO251 (hon 4 (by kernel_rfl)))
          refine value_ (w1 := w') (v := .bool t252) (by rfl) rfl ?_ ?_
          ·go_simp
           (try simp only [i64_w])
           try rfl
          refine hK.out _ _ ⟨v242, v246, v250, gb253, m1_, m3_, m4_, m5_, m6_, m8_, (by rw [ha.out]; exact putSel_upk 7 hb_ rfl rfl rfl), Q_HO194, Q_HO198, Q_HO202, Q_HO208, Q_HO213, Q_HO218, Q_HO225, Q_HO230, Q_BK187, Q_BK188, Q_BK204, Q_BK209, Q_BK214, Q_BK220, Q_HB, Q_HO243, Q_HO247, Q_HO251, Q_BK253, Q_GW253, Q_GE253, Q_NB187_253, Q_NB253_187, Q_NB188_253, Q_NB253_188, Q_NB204_253, Q_NB253_204, Q_NB209_253, Q_NB253_209, Q_NB214_253, Q_NB253_214, Q_NB220_253, Q_NB253_220, Q_BK253_e9, Q_X1_, Q_X3_, Q_X4_, Q_X5_, Q_X6_, Q_X8_⟩
         refine steps_cons ?_ ?_
         ·rintro b a w' ⟨v242, v246, v250, gb253, m1_, m3_, m4_, m5_, m6_, m8_, ha, Q_HO194, Q_HO198, Q_HO202, Q_HO208, Q_HO213, Q_HO218, Q_HO225, Q_HO230, Q_BK187, Q_BK188, Q_BK204, Q_BK209, Q_BK214, Q_BK220, Q_HB, Q_HO243, Q_HO247, Q_HO251, Q_BK253, Q_GW253, Q_GE253, Q_NB187_253, Q_NB253_187, Q_NB188_253, Q_NB253_188, Q_NB204_253, Q_NB253_204, Q_NB209_253, Q_NB253_209, Q_NB214_253, Q_NB253_214, Q_NB220_253, Q_NB253_220, Q_BK253_e9, Q_X1_, Q_X3_, Q_X4_, Q_X5_, Q_X6_, Q_X8_⟩ hb_ hon hoff
          refine ⟨_, rfl, fun K hK => ?_⟩
          replace ha := qm_ ha
          have HO194 := qm_ Q_HO194
          have HO198 := qm_ Q_HO198
          have HO202 := qm_ Q_HO202
          have HO208 := qm_ Q_HO208
          have HO213 := qm_ Q_HO213
          have HO218 := qm_ Q_HO218
          have HO225 := qm_ Q_HO225
          have HO230 := qm_ Q_HO230
          have BK187 := qm_ Q_BK187
          have BK188 := qm_ Q_BK188
          have BK204 := qm_ Q_BK204
          have BK209 := qm_ Q_BK209
          have BK214 := qm_ Q_BK214
          have BK220 := qm_ Q_BK220
          have HB := qm_ Q_HB
          refine box_step ?hg (N := 15) ?hd (cs := #[.int .i64 0, .slice none 0 0]) (t := 24) ?hr ?_; (case hd => rfl); (case hg => rfl); (case hr => first | (go_simp; done) | (go_simp; rfl))
          intro gb253 hg w110 hbox hb
          have n0_ := qm_ (qb_ (by (with_reducible repeat (first | apply qa_ | apply qn_ | apply qd_)); exact HO194.out) hb)
          have n1_ := qm_ (qb_ (by (with_reducible repeat (first | apply qa_ | apply qn_ | apply qd_)); exact HO198.out) hb)
          have n2_ := qm_ (qb_ (by (with_reducible repeat (first | apply qa_ | apply qn_ | apply qd_)); exact HO202.out) hb)
          have n3_ := qm_ (qb_ (by (with_reducible repeat (first | apply qa_ | apply qn_ | apply qd_)); exact HO208.out) hb)
          have n4_ := qm_ (qb_ (by (with_reducible repeat (first | apply qa_ | apply qn_ | apply qd_)); exact HO213.out) hb)
          have n5_ := qm_ (qb_ (by (with_reducible repeat (first | apply qa_ | apply qn_ | apply qd_)); exact HO218.out) hb)
          have n6_ := qm_ (qb_ (by (with_reducible repeat (first | apply qa_ | apply qn_ | apply qd_)); exact HO225.out) hb)
          have n7_ := qm_ (qb_ (by (with_reducible repeat (first | apply qa_ | apply qn_ | apply qd_)); exact HO230.out) hb)
          have n8_ := qm_ (qs_ (g := gb187) (o := .cells #[.int .i64 a0_0, .slice A0_1 l0_1.length c0_1] 34 (0, 0)) (by (with_reducible repeat (first | refine qu_ ?_ _ | refine qv_ ?_ | refine qw_ ?_ _)); exact BK187.out) hb)
          have n9_ := qm_ (qs_ (g := gb188) (o := .cells #[.int .i64 a1_0, .slice A1_1 l1_1.length c1_1] 34 (0, 0)) (by (with_reducible repeat (first | refine qu_ ?_ _ | refine qv_ ?_ | refine qw_ ?_ _)); exact BK188.out) hb)
          have n10_ := qm_ (qs_ (g := gb204) (o := .cells #[.int .i64 t199, .slice Ao88 t200.length co88] 24 (0, 0)) (by (with_reducible repeat (first | refine qu_ ?_ _ | refine qv_ ?_ | refine qw_ ?_ _)); exact BK204.out) hb)
          have n11_ := qm_ (qs_ (g := gb209) (o := .cells #[.int .i64 t205, .slice Ao66 t206.length co66] 24 (0, 0)) (by (with_reducible repeat (first | refine qu_ ?_ _ | refine qv_ ?_ | refine qw_ ?_ _)); exact BK209.out) hb)
          have n12_ := qm_ (qs_ (g := gb214) (o := .cells #[.int .i64 t210, .slice Ao76 t211.length co76] 24 (0, 0)) (by (with_reducible repeat (first | refine qu_ ?_ _ | refine qv_ ?_ | refine qw_ ?_ _)); exact BK214.out) hb)
          have n13_ := qm_ (qs_ (g := gb220) (o := .cells #[.int .i64 t215, .slice Ao86 t216.length co86] 24 (0, 0)) (by (with_reducible repeat (first | refine qu_ ?_ _ | refine qv_ ?_ | refine qw_ ?_ _)); exact BK220.out) hb)
          have n14_ := qm_ (qh_ (by repeat (first | (with_reducible first | exact HB.out | apply qc_ | apply qx_ | apply qf_ | refine qg_ ?_ GE187.out | refine qg_ ?_ GE188.out | refine qg_ ?_ GE204.out | refine qg_ ?_ GE209.out | refine qg_ ?_ GE214.out | refine qg_ ?_ GE220.out) | exact HB.out)) hb)
          have n15_ := qm_ (hbox)
          have n16_ := qm_ ((by rw [hg]; exact (qz_ (by repeat (first | (with_reducible first | exact HB.out | apply qc_ | apply qx_ | apply qf_ | refine qg_ ?_ GE187.out | refine qg_ ?_ GE188.out | refine qg_ ?_ GE204.out | refine qg_ ?_ GE209.out | refine qg_ ?_ GE214.out | refine qg_ ?_ GE220.out) | exact HB.out))) : w.heap.size ≤ gb253))
          have n17_ := qm_ ((by rw [hg]; exact (qz_ (by repeat (first | (with_reducible first | exact HB.out | apply qc_ | apply qx_ | apply qf_ | refine qg_ ?_ GE187.out | refine qg_ ?_ GE188.out | refine qg_ ?_ GE204.out | refine qg_ ?_ GE209.out | refine qg_ ?_ GE214.out | refine qg_ ?_ GE220.out) | exact HB.out))) : w.heap.size ≤ gb253))
          have n18_ := qm_ ((by rw [hg]; exact Nat.ne_of_lt (blk_lt (g := gb187) (o := .cells #[.int .i64 a0_0, .slice A0_1 l0_1.length c0_1] 34 (0, 0)) (by (with_reducible repeat (first | refine qu_ ?_ _ | refine qv_ ?_ | refine qw_ ?_ _)); exact BK187.out)) : gb187 ≠ gb253))
          have n19_ := qm_ ((by rw [hg]; exact Nat.ne_of_gt (blk_lt (g := gb187) (o := .cells #[.int .i64 a0_0, .slice A0_1 l0_1.length c0_1] 34 (0, 0)) (by (with_reducible repeat (first | refine qu_ ?_ _ | refine qv_ ?_ | refine qw_ ?_ _)); exact BK187.out)) : gb253 ≠ gb187))
          have n20_ := qm_ ((by rw [hg]; exact Nat.ne_of_lt (blk_lt (g := gb188) (o := .cells #[.int .i64 a1_0, .slice A1_1 l1_1.length c1_1] 34 (0, 0)) (by (with_reducible repeat (first | refine qu_ ?_ _ | refine qv_ ?_ | refine qw_ ?_ _)); exact BK188.out)) : gb188 ≠ gb253))
          have n21_ := qm_ ((by rw [hg]; exact Nat.ne_of_gt (blk_lt (g := gb188) (o := .cells #[.int .i64 a1_0, .slice A1_1 l1_1.length c1_1] 34 (0, 0)) (by (with_reducible repeat (first | refine qu_ ?_ _ | refine qv_ ?_ | refine qw_ ?_ _)); exact BK188.out)) : gb253 ≠ gb188))
          have n22_ := qm_ ((by rw [hg]; exact Nat.ne_of_lt (blk_lt (g := gb204) (o := .cells #[.int .i64 t199, .slice Ao88 t200.length co88] 24 (0, 0)) (by (with_reducible repeat (first | refine qu_ ?_ _ | refine qv_ ?_ | refine qw_ ?_ _)); exact BK204.out)) : gb204 ≠ gb253))
          have n23_ := qm_ ((by rw [hg]; exact Nat.ne_of_gt (blk_lt (g := gb204) (o := .cells #[.int .i64 t199, .slice Ao88 t200.length co88] 24 (0, 0)) (by (with_reducible repeat (first | refine qu_ ?_ _ | refine qv_ ?_ | refine qw_ ?_ _)); exact BK204.out)) : gb253 ≠ gb204))
          have n24_ := qm_ ((by rw [hg]; exact Nat.ne_of_lt (blk_lt (g := gb209) (o := .cells #[.int .i64 t205, .slice Ao66 t206.length co66] 24 (0, 0)) (by (with_reducible repeat (first | refine qu_ ?_ _ | refine qv_ ?_ | refine qw_ ?_ _)); exact BK209.out)) : gb209 ≠ gb253))
          have n25_ := qm_ ((by rw [hg]; exact Nat.ne_of_gt (blk_lt (g := gb209) (o := .cells #[.int .i64 t205, .slice Ao66 t206.length co66] 24 (0, 0)) (by (with_reducible repeat (first | refine qu_ ?_ _ | refine qv_ ?_ | refine qw_ ?_ _)); exact BK209.out)) : gb253 ≠ gb209))
          have n26_ := qm_ ((by rw [hg]; exact Nat.ne_of_lt (blk_lt (g := gb214) (o := .cells #[.int .i64 t210, .slice Ao76 t211.length co76] 24 (0, 0)) (by (with_reducible repeat (first | refine qu_ ?_ _ | refine qv_ ?_ | refine qw_ ?_ _)); exact BK214.out)) : gb214 ≠ gb253))
          have n27_ := qm_ ((by rw [hg]; exact Nat.ne_of_gt (blk_lt (g := gb214) (o := .cells #[.int .i64 t210, .slice Ao76 t211.length co76] 24 (0, 0)) (by (with_reducible repeat (first | refine qu_ ?_ _ | refine qv_ ?_ | refine qw_ ?_ _)); exact BK214.out)) : gb253 ≠ gb214))
          have n28_ := qm_ ((by rw [hg]; exact Nat.ne_of_lt (blk_lt (g := gb220) (o := .cells #[.int .i64 t215, .slice Ao86 t216.length co86] 24 (0, 0)) (by (with_reducible repeat (first | refine qu_ ?_ _ | refine qv_ ?_ | refine qw_ ?_ _)); exact BK220.out)) : gb220 ≠ gb253))
          have n29_ := qm_ ((by rw [hg]; exact Nat.ne_of_gt (blk_lt (g := gb220) (o := .cells #[.int .i64 t215, .slice Ao86 t216.length co86] 24 (0, 0)) (by (with_reducible repeat (first | refine qu_ ?_ _ | refine qv_ ?_ | refine qw_ ?_ _)); exact BK220.out)) : gb253 ≠ gb220))
          have z_HO243 := fun (h0_ : b 1 = true) => (show Kd.R (Kd.int .i64) 3 w110 w.heap.size (fun k_ => some k_ ≠ (v193 : Value).ownBlock ∧ some k_ ≠ (v197 : Value).ownBlock ∧ some k_ ≠ (.slice Ao88 t200.length co88 : Value).ownBlock ∧ some k_ ≠ (.slice Ao66 t206.length co66 : Value).ownBlock ∧ some k_ ≠ (.slice Ao76 t211.length co76 : Value).ownBlock ∧ some k_ ≠ (.slice Ao86 t216.length co86 : Value).ownBlock ∧ some k_ ≠ (.slice Ao92 t223.length co92 : Value).ownBlock ∧ some k_ ≠ (.slice Ao96 t228.length co96 : Value).ownBlock) v242 t241 from by first | exact (qb_ (by (with_reducible repeat (first | apply qa_ | apply qn_ | apply qd_)); exact (Q_HO243 h0_)) hb) | exact Kd.R_mono (qb_ (by (with_reducible repeat (first | apply qa_ | apply qn_ | apply qd_)); exact (Q_HO243 h0_)) hb) (fun _ h_ => by first | trivial | exact h_ | exact h_.1))
          have z_HO247 := fun (h0_ : b 3 = true) => (show Kd.R (Kd.int .i64) 3 w110 w.heap.size (fun k_ => some k_ ≠ (v193 : Value).ownBlock ∧ some k_ ≠ (v197 : Value).ownBlock ∧ some k_ ≠ (.slice Ao88 t200.length co88 : Value).ownBlock ∧ some k_ ≠ (.slice Ao66 t206.length co66 : Value).ownBlock ∧ some k_ ≠ (.slice Ao76 t211.length co76 : Value).ownBlock ∧ some k_ ≠ (.slice Ao86 t216.length co86 : Value).ownBlock ∧ some k_ ≠ (.slice Ao92 t223.length co92 : Value).ownBlock ∧ some k_ ≠ (.slice Ao96 t228.length co96 : Value).ownBlock) v246 t245 from by first | exact (qb_ (by (with_reducible repeat (first | apply qa_ | apply qn_ | apply qd_)); exact (Q_HO247 h0_)) hb) | exact Kd.R_mono (qb_ (by (with_reducible repeat (first | apply qa_ | apply qn_ | apply qd_)); exact (Q_HO247 h0_)) hb) (fun _ h_ => by first | trivial | exact h_ | exact h_.1))
          have z_HO251 := fun (h0_ : b 4 = true) => (show Kd.R (Kd.int .i64) 3 w110 w.heap.size (fun k_ => some k_ ≠ (v193 : Value).ownBlock ∧ some k_ ≠ (v197 : Value).ownBlock ∧ some k_ ≠ (.slice Ao88 t200.length co88 : Value).ownBlock ∧ some k_ ≠ (.slice Ao66 t206.length co66 : Value).ownBlock ∧ some k_ ≠ (.slice Ao76 t211.length co76 : Value).ownBlock ∧ some k_ ≠ (.slice Ao86 t216.length co86 : Value).ownBlock ∧ some k_ ≠ (.slice Ao92 t223.length co92 : Value).ownBlock ∧ some k_ ≠ (.slice Ao96 t228.length co96 : Value).ownBlock) v250 t249 from by first | exact (qb_ (by (with_reducible repeat (first | apply qa_ | apply qn_ | apply qd_)); exact (Q_HO251 h0_)) hb) | exact Kd.R_mono (qb_ (by (with_reducible repeat (first | apply qa_ | apply qn_ | apply qd_)); exact (Q_HO251 h0_)) hb) (fun _ h_ => by first | trivial | exact h_ | exact h_.1))
          clear HO194
          clear HO198
          clear HO202
          clear HO208
          clear HO213
          clear HO218
          clear HO225
          clear HO230
          clear BK187
          clear BK188
          clear BK204
          clear BK209
          clear BK214
          clear BK220
          clear HB
          have HO194 := n0_
          have HO198 := n1_
          have HO202 := n2_
          have HO208 := n3_
          have HO213 := n4_
          have HO218 := n5_
          have HO225 := n6_
          have HO230 := n7_
          have BK187 := n8_
          have BK188 := n9_
          have BK204 := n10_
          have BK209 := n11_
          have BK214 := n12_
          have BK220 := n13_
          have HB := n14_
          have BK253 := n15_
          have GW253 := n16_
          have GE253 := n17_
          have NB187_253 := n18_
          have NB253_187 := n19_
          have NB188_253 := n20_
          have NB253_188 := n21_
          have NB204_253 := n22_
          have NB253_204 := n23_
          have NB209_253 := n24_
          have NB253_209 := n25_
          have NB214_253 := n26_
          have NB253_214 := n27_
          have NB220_253 := n28_
          have NB253_220 := n29_
          clear n0_ n1_ n2_ n3_ n4_ n5_ n6_ n7_ n8_ n9_ n10_ n11_ n12_ n13_ n14_ n15_ n16_ n17_ n18_ n19_ n20_ n21_ n22_ n23_ n24_ n25_ n26_ n27_ n28_ n29_
          clear hb hbox hg
          refine hK.out _ _ ⟨v242, v246, v250, gb253, m1_, m3_, m4_, m5_, m6_, (.pointer (some ⟨gb253, 0, none⟩)), (by rw [ha.out]; exact putSel_upk 8 hb_ rfl rfl rfl), (by (with_reducible repeat (first | apply qa_ | apply qn_ | apply qd_)); exact HO194.out), (by (with_reducible repeat (first | apply qa_ | apply qn_ | apply qd_)); exact HO198.out), (by (with_reducible repeat (first | apply qa_ | apply qn_ | apply qd_)); exact HO202.out), (by (with_reducible repeat (first | apply qa_ | apply qn_ | apply qd_)); exact HO208.out), (by (with_reducible repeat (first | apply qa_ | apply qn_ | apply qd_)); exact HO213.out), (by (with_reducible repeat (first | apply qa_ | apply qn_ | apply qd_)); exact HO218.out), (by (with_reducible repeat (first | apply qa_ | apply qn_ | apply qd_)); exact HO225.out), (by (with_reducible repeat (first | apply qa_ | apply qn_ | apply qd_)); exact HO230.out), (by (with_reducible repeat (first | refine qu_ ?_ _ | refine qv_ ?_ | refine qw_ ?_ _)); exact BK187.out), (by (with_reducible repeat (first | refine qu_ ?_ _ | refine qv_ ?_ | refine qw_ ?_ _)); exact BK188.out), (by (with_reducible repeat (first | refine qu_ ?_ _ | refine qv_ ?_ | refine qw_ ?_ _)); exact BK204.out), (by (with_reducible repeat (first | refine qu_ ?_ _ | refine qv_ ?_ | refine qw_ ?_ _)); exact BK209.out), (by (with_reducible repeat (first | refine qu_ ?_ _ | refine qv_ ?_ | refine qw_ ?_ _)); exact BK214.out), (by (with_reducible repeat (first | refine qu_ ?_ _ | refine qv_ ?_ | refine qw_ ?_ _)); exact BK220.out), (by repeat (first | (with_reducible first | exact HB.out | apply qc_ | apply qx_ | apply qf_ | refine qg_ ?_ GE187.out | refine qg_ ?_ GE188.out | refine qg_ ?_ GE204.out | refine qg_ ?_ GE209.out | refine qg_ ?_ GE214.out | refine qg_ ?_ GE220.out | refine qg_ ?_ GE253.out) | exact HB.out)), z_HO243, z_HO247, z_HO251, fun _ _ => (by (with_reducible repeat (first | refine qu_ ?_ _ | refine qv_ ?_ | refine qw_ ?_ _)); exact BK253.out), fun _ => GW253.out, fun _ => GE253.out, fun _ => NB187_253.out, fun _ => NB253_187.out, fun _ => NB188_253.out, fun _ => NB253_188.out, fun _ => NB204_253.out, fun _ => NB253_204.out, fun _ => NB209_253.out, fun _ => NB253_209.out, fun _ => NB214_253.out, fun _ => NB253_214.out, fun _ => NB220_253.out, fun _ => NB253_220.out, fun h0_ => absurd ((hoff 9 (by kernel_rfl)).symm.trans h0_) (by decide), Q_X1_, Q_X3_, Q_X4_, Q_X5_, Q_X6_, fun _ => rfl⟩
         refine steps_cons ?_ ?_
         ·rintro b a w' ⟨v242, v246, v250, gb253, m1_, m3_, m4_, m5_, m6_, m8_, ha, Q_HO194, Q_HO198, Q_HO202, Q_HO208, Q_HO213, Q_HO218, Q_HO225, Q_HO230, Q_BK187, Q_BK188, Q_BK204, Q_BK209, Q_BK214, Q_BK220, Q_HB, Q_HO243, Q_HO247, Q_HO251, Q_BK253, Q_GW253, Q_GE253, Q_NB187_253, Q_NB253_187, Q_NB188_253, Q_NB253_188, Q_NB204_253, Q_NB253_204, Q_NB209_253, Q_NB253_209, Q_NB214_253, Q_NB253_214, Q_NB220_253, Q_NB253_220, Q_BK253_e9, Q_X1_, Q_X3_, Q_X4_, Q_X5_, Q_X6_, Q_X8_⟩ hb_ hon hoff
          refine ⟨_, rfl, fun K hK => ?_⟩
          have e15 : a.tmps[15]? = some (m8_) := by rw [ha]; exact putSel_on (e := (8, 15, m8_)) 8 rfl rfl (hon 8 (by kernel_rfl)) rfl
          rw [Q_X8_ (hon 8 (by kernel_rfl))] at e15
          have e100 : a.tmps[100]? = some (m6_) := by rw [ha]; exact putSel_on (e := (6, 100, m6_)) 6 rfl rfl (hon 6 (by kernel_rfl)) rfl
          rw [Q_X6_ (hon 6 (by kernel_rfl))] at e100
          replace ha := qm_ ha
          have HO194 := qm_ Q_HO194
          have HO198 := qm_ Q_HO198
          have HO202 := qm_ Q_HO202
          have HO208 := qm_ Q_HO208
          have HO213 := qm_ Q_HO213
          have HO218 := qm_ Q_HO218
          have HO225 := qm_ Q_HO225
          have HO230 := qm_ Q_HO230
          have BK187 := qm_ Q_BK187
          have BK188 := qm_ Q_BK188
          have BK204 := qm_ Q_BK204
          have BK209 := qm_ Q_BK209
          have BK214 := qm_ Q_BK214
          have BK220 := qm_ Q_BK220
          have HB := qm_ Q_HB
          have HO243 := qm_ (Q_HO243 (hon 1 (by kernel_rfl)))
          have HO247 := qm_ (Q_HO247 (hon 3 (by kernel_rfl)))
          have HO251 := qm_ (Q_HO251 (hon 4 (by kernel_rfl)))
          have BK253 := qm_ (Q_BK253 (hon 8 (by kernel_rfl)) hb_)
          have GW253 := qm_ (Q_GW253 (hon 8 (by kernel_rfl)))
          have GE253 := qm_ (Q_GE253 (hon 8 (by kernel_rfl)))
          have NB187_253 := qm_ (Q_NB187_253 (hon 8 (by kernel_rfl)))
          have NB253_187 := qm_ (Q_NB253_187 (hon 8 (by kernel_rfl)))
          have NB188_253 := qm_ (Q_NB188_253 (hon 8 (by kernel_rfl)))
          have NB253_188 := qm_ (Q_NB253_188 (hon 8 (by kernel_rfl)))
          have NB204_253 := qm_ (Q_NB204_253 (hon 8 (by kernel_rfl)))
          have NB253_204 := qm_ (Q_NB253_204 (hon 8 (by kernel_rfl)))
          have NB209_253 := qm_ (Q_NB209_253 (hon 8 (by kernel_rfl)))
          have NB253_209 := qm_ (Q_NB253_209 (hon 8 (by kernel_rfl)))
          have NB214_253 := qm_ (Q_NB214_253 (hon 8 (by kernel_rfl)))
          have NB253_214 := qm_ (Q_NB253_214 (hon 8 (by kernel_rfl)))
          have NB220_253 := qm_ (Q_NB220_253 (hon 8 (by kernel_rfl)))
          have NB253_220 := qm_ (Q_NB253_220 (hon 8 (by kernel_rfl)))
          obtain ⟨Ao118, co118, eo118⟩ := Kd.R_slice HO251.out
          (first | subst eo118 | (injection eo118 with f1_ f2_ f3_; have f4_ := f1_.symm; have f5_ := f3_.symm; clear f1_ f2_ f3_; subst f4_; subst f5_))
          have hs117 : w'.cell? ⟨gb253, 0, none⟩ = some (.int .i64 0) := (blk_cell BK253.out 0).trans rfl
          have hfs117 := blk_frozen BK253.out 0
          have hns117_0 := NB187_253.out
          have hns117_1 := NB188_253.out
          have hns117_2 := NB204_253.out
          have hns117_3 := NB209_253.out
          have hns117_4 := NB214_253.out
          have hns117_5 := NB220_253.out
          have hms117_0 := NB253_187.out
          have hms117_1 := NB253_188.out
          have hms117_2 := NB253_204.out
          have hms117_3 := NB253_209.out
          have hms117_4 := NB253_214.out
          have hms117_5 := NB253_220.out
          have hs119 : w'.cell? ⟨gb253, 1, none⟩ = some (.slice none 0 0) := (blk_cell BK253.out 1).trans rfl
          have hfs119 := blk_frozen BK253.out 1
          have hns119_0 := NB187_253.out
          have hns119_1 := NB188_253.out
          have hns119_2 := NB204_253.out
          have hns119_3 := NB209_253.out
          have hns119_4 := NB214_253.out
          have hns119_5 := NB220_253.out
          have hms119_0 := NB253_187.out
          have hms119_1 := NB253_188.out
          have hms119_2 := NB253_204.out
          have hms119_3 := NB253_209.out
          have hms119_4 := NB253_214.out
          have hms119_5 := NB253_220.out
          refine skip_ (w1 := ?_) (by rfl) rfl ?_ ?_
          rotate_left
          ·go_simp
           rfl
          refine hK.out _ _ ⟨v242, v246, .slice Ao118 t249.length co118, gb253, m1_, m3_, m4_, m5_, m6_, m8_, (by rw [ha.out]; exact putSel_none (v := undef) rfl), (by (with_reducible repeat (first | apply qa_ | apply qn_ | apply qd_)); exact Kd.R_mono (Kd.R_far (p := ⟨gb253, 1, none⟩) (Kd.R_far (p := ⟨gb253, 0, none⟩) (Kd.R_types HO194.out BK253.out (by decide)) (fun _ hk => hk.2) (.int .i64 t248)) (fun _ hk => hk.2) (.slice Ao118 t249.length co118)) (fun _ hk => by simp only [hk, and_self, ne_eq, not_false_eq_true])), (by (with_reducible repeat (first | apply qa_ | apply qn_ | apply qd_)); exact Kd.R_mono (Kd.R_far (p := ⟨gb253, 1, none⟩) (Kd.R_far (p := ⟨gb253, 0, none⟩) (Kd.R_types HO198.out BK253.out (by decide)) (fun _ hk => hk.2) (.int .i64 t248)) (fun _ hk => hk.2) (.slice Ao118 t249.length co118)) (fun _ hk => by simp only [hk, and_self, ne_eq, not_false_eq_true])), (by (with_reducible repeat (first | apply qa_ | apply qn_ | apply qd_)); exact Kd.R_mono (Kd.R_far (p := ⟨gb253, 1, none⟩) (Kd.R_far (p := ⟨gb253, 0, none⟩) (Kd.R_types HO202.out BK253.out (by decide)) (fun _ hk => hk.2) (.int .i64 t248)) (fun _ hk => hk.2) (.slice Ao118 t249.length co118)) (fun _ hk => by simp only [hk, and_self, ne_eq, not_false_eq_true])), (by (with_reducible repeat (first | apply qa_ | apply qn_ | apply qd_)); exact Kd.R_mono (Kd.R_far (p := ⟨gb253, 1, none⟩) (Kd.R_far (p := ⟨gb253, 0, none⟩) (Kd.R_types HO208.out BK253.out (by decide)) (fun _ hk => hk.2) (.int .i64 t248)) (fun _ hk => hk.2) (.slice Ao118 t249.length co118)) (fun _ hk => by simp only [hk, and_self, ne_eq, not_false_eq_true])), (by (with_reducible repeat (first | apply qa_ | apply qn_ | apply qd_)); exact Kd.R_mono (Kd.R_far (p := ⟨gb253, 1, none⟩) (Kd.R_far (p := ⟨gb253, 0, none⟩) (Kd.R_types HO213.out BK253.out (by decide)) (fun _ hk => hk.2) (.int .i64 t248)) (fun _ hk => hk.2) (.slice Ao118 t249.length co118)) (fun _ hk => by simp only [hk, and_self, ne_eq, not_false_eq_true])), (by (with_reducible repeat (first | apply qa_ | apply qn_ | apply qd_)); exact Kd.R_mono (Kd.R_far (p := ⟨gb253, 1, none⟩) (Kd.R_far (p := ⟨gb253, 0, none⟩) (Kd.R_types HO218.out BK253.out (by decide)) (fun _ hk => hk.2) (.int .i64 t248)) (fun _ hk => hk.2) (.slice Ao118 t249.length co118)) (fun _ hk => by simp only [hk, and_self, ne_eq, not_false_eq_true])), (by (with_reducible repeat (first | apply qa_ | apply qn_ | apply qd_)); exact Kd.R_mono (Kd.R_far (p := ⟨gb253, 1, none⟩) (Kd.R_far (p := ⟨gb253, 0, none⟩) (Kd.R_types HO225.out BK253.out (by decide)) (fun _ hk => hk.2) (.int .i64 t248)) (fun _ hk => hk.2) (.slice Ao118 t249.length co118)) (fun _ hk => by simp only [hk, and_self, ne_eq, not_false_eq_true])), (by (with_reducible repeat (first | apply qa_ | apply qn_ | apply qd_)); exact Kd.R_mono (Kd.R_far (p := ⟨gb253, 1, none⟩) (Kd.R_far (p := ⟨gb253, 0, none⟩) (Kd.R_types HO230.out BK253.out (by decide)) (fun _ hk => hk.2) (.int .i64 t248)) (fun _ hk => hk.2) (.slice Ao118 t249.length co118)) (fun _ hk => by simp only [hk, and_self, ne_eq, not_false_eq_true])), (by (with_reducible repeat (first | refine qu_ ?_ _ | refine qv_ ?_ | refine qw_ ?_ _)); refine blk_far ?_ NB187_253.out _; (with_reducible repeat (first | refine qu_ ?_ _ | refine qv_ ?_ | refine qw_ ?_ _)); refine blk_far ?_ NB187_253.out _; (with_reducible repeat (first | refine qu_ ?_ _ | refine qv_ ?_ | refine qw_ ?_ _)); exact BK187.out), (by (with_reducible repeat (first | refine qu_ ?_ _ | refine qv_ ?_ | refine qw_ ?_ _)); refine blk_far ?_ NB188_253.out _; (with_reducible repeat (first | refine qu_ ?_ _ | refine qv_ ?_ | refine qw_ ?_ _)); refine blk_far ?_ NB188_253.out _; (with_reducible repeat (first | refine qu_ ?_ _ | refine qv_ ?_ | refine qw_ ?_ _)); exact BK188.out), (by (with_reducible repeat (first | refine qu_ ?_ _ | refine qv_ ?_ | refine qw_ ?_ _)); refine blk_far ?_ NB204_253.out _; (with_reducible repeat (first | refine qu_ ?_ _ | refine qv_ ?_ | refine qw_ ?_ _)); refine blk_far ?_ NB204_253.out _; (with_reducible repeat (first | refine qu_ ?_ _ | refine qv_ ?_ | refine qw_ ?_ _)); exact BK204.out), (by (with_reducible repeat (first | refine qu_ ?_ _ | refine qv_ ?_ | refine qw_ ?_ _)); refine blk_far ?_ NB209_253.out _; (with_reducible repeat (first | refine qu_ ?_ _ | refine qv_ ?_ | refine qw_ ?_ _)); refine blk_far ?_ NB209_253.out _; (with_reducible repeat (first | refine qu_ ?_ _ | refine qv_ ?_ | refine qw_ ?_ _)); exact BK209.out), (by (with_reducible repeat (first | refine qu_ ?_ _ | refine qv_ ?_ | refine qw_ ?_ _)); refine blk_far ?_ NB214_253.out _; (with_reducible repeat (first | refine qu_ ?_ _ | refine qv_ ?_ | refine qw_ ?_ _)); refine blk_far ?_ NB214_253.out _; (with_reducible repeat (first | refine qu_ ?_ _ | refine qv_ ?_ | refine qw_ ?_ _)); exact BK214.out), (by (with_reducible repeat (first | refine qu_ ?_ _ | refine qv_ ?_ | refine qw_ ?_ _)); refine blk_far ?_ NB220_253.out _; (with_reducible repeat (first | refine qu_ ?_ _ | refine qv_ ?_ | refine qw_ ?_ _)); refine blk_far ?_ NB220_253.out _; (with_reducible repeat (first | refine qu_ ?_ _ | refine qv_ ?_ | refine qw_ ?_ _)); exact BK220.out), (by repeat (first | (with_reducible first | exact HB.out | apply qc_ | apply qx_ | apply qf_ | refine qg_ ?_ GE187.out | refine qg_ ?_ GE188.out | refine qg_ ?_ GE204.out | refine qg_ ?_ GE209.out | refine qg_ ?_ GE214.out | refine qg_ ?_ GE220.out | refine qg_ ?_ GE253.out) | exact HB.out)), fun _ => (by (with_reducible repeat (first | apply qa_ | apply qn_ | apply qd_)); exact Kd.R_mono (Kd.R_far (p := ⟨gb253, 1, none⟩) (Kd.R_far (p := ⟨gb253, 0, none⟩) (Kd.R_types HO243.out BK253.out (by decide)) (fun _ hk => hk.2) (.int .i64 t248)) (fun _ hk => hk.2) (.slice Ao118 t249.length co118)) (fun _ hk => by simp only [hk, and_self, ne_eq, not_false_eq_true])), fun _ => (by (with_reducible repeat (first | apply qa_ | apply qn_ | apply qd_)); exact Kd.R_mono (Kd.R_far (p := ⟨gb253, 1, none⟩) (Kd.R_far (p := ⟨gb253, 0, none⟩) (Kd.R_types HO247.out BK253.out (by decide)) (fun _ hk => hk.2) (.int .i64 t248)) (fun _ hk => hk.2) (.slice Ao118 t249.length co118)) (fun _ hk => by simp only [hk, and_self, ne_eq, not_false_eq_true])), fun _ => (by (with_reducible repeat (first | apply qa_ | apply qn_ | apply qd_)); exact Kd.R_mono (Kd.R_far (p := ⟨gb253, 1, none⟩) (Kd.R_far (p := ⟨gb253, 0, none⟩) (Kd.R_types HO251.out BK253.out (by decide)) (fun _ hk => hk.2) (.int .i64 t248)) (fun _ hk => hk.2) (.slice Ao118 t249.length co118)) (fun _ hk => by simp only [hk, and_self, ne_eq, not_false_eq_true])), fun _ h1_ => absurd ((up_self b 9).symm.trans h1_) (by decide), fun _ => GW253.out, fun _ => GE253.out, fun _ => NB187_253.out, fun _ => NB253_187.out, fun _ => NB188_253.out, fun _ => NB253_188.out, fun _ => NB204_253.out, fun _ => NB253_204.out, fun _ => NB209_253.out, fun _ => NB253_209.out, fun _ => NB214_253.out, fun _ => NB253_214.out, fun _ => NB220_253.out, fun _ => NB253_220.out, fun _ => (by (with_reducible repeat (first | refine qu_ ?_ _ | refine qv_ ?_ | refine qw_ ?_ _)); refine blk_put (cs := #[.int .i64 t248, .slice none 0 0]) ?_ 1 _ rfl; (with_reducible repeat (first | refine qu_ ?_ _ | refine qv_ ?_ | refine qw_ ?_ _)); refine blk_put (cs := #[.int .i64 0, .slice none 0 0]) ?_ 0 _ rfl; (with_reducible repeat (first | refine qu_ ?_ _ | refine qv_ ?_ | refine qw_ ?_ _)); exact BK253.out), Q_X1_, Q_X3_, Q_X4_, Q_X5_, Q_X6_, Q_X8_⟩
         refine steps_cons ?_ ?_
         ·rintro b a w' ⟨v242, v246, v250, gb253, m1_, m3_, m4_, m5_, m6_, m8_, ha, Q_HO194, Q_HO198, Q_HO202, Q_HO208, Q_HO213, Q_HO218, Q_HO225, Q_HO230, Q_BK187, Q_BK188, Q_BK204, Q_BK209, Q_BK214, Q_BK220, Q_HB, Q_HO243, Q_HO247, Q_HO251, Q_BK253, Q_GW253, Q_GE253, Q_NB187_253, Q_NB253_187, Q_NB188_253, Q_NB253_188, Q_NB204_253, Q_NB253_204, Q_NB209_253, Q_NB253_209, Q_NB214_253, Q_NB253_214, Q_NB220_253, Q_NB253_220, Q_BK253_e9, Q_X1_, Q_X3_, Q_X4_, Q_X5_, Q_X6_, Q_X8_⟩ hb_ hon hoff
          refine ⟨_, rfl, fun K hK => ?_⟩
          have e101 : a.tmps[101]? = some (.bool t252) := by rw [ha]; exact putSel_on (e := (7, 101, .bool t252)) 7 rfl rfl (hon 7 (by kernel_rfl)) rfl
          replace ha := qm_ ha
          have HO194 := qm_ Q_HO194
          have HO198 := qm_ Q_HO198
          have HO202 := qm_ Q_HO202
          have HO208 := qm_ Q_HO208
          have HO213 := qm_ Q_HO213
          have HO218 := qm_ Q_HO218
          have HO225 := qm_ Q_HO225
          have HO230 := qm_ Q_HO230
          have BK187 := qm_ Q_BK187
          have BK188 := qm_ Q_BK188
          have BK204 := qm_ Q_BK204
          have BK209 := qm_ Q_BK209
          have BK214 := qm_ Q_BK214
          have BK220 := qm_ Q_BK220
          have HB := qm_ Q_HB
          have HO243 := qm_ (Q_HO243 (hon 1 (by kernel_rfl)))
          have HO247 := qm_ (Q_HO247 (hon 3 (by kernel_rfl)))
          have HO251 := qm_ (Q_HO251 (hon 4 (by kernel_rfl)))
          have GW253 := qm_ (Q_GW253 (hon 8 (by kernel_rfl)))
          have GE253 := qm_ (Q_GE253 (hon 8 (by kernel_rfl)))
          have NB187_253 := qm_ (Q_NB187_253 (hon 8 (by kernel_rfl)))
          have NB253_187 := qm_ (Q_NB253_187 (hon 8 (by kernel_rfl)))
          have NB188_253 := qm_ (Q_NB188_253 (hon 8 (by kernel_rfl)))
          have NB253_188 := qm_ (Q_NB253_188 (hon 8 (by kernel_rfl)))
          have NB204_253 := qm_ (Q_NB204_253 (hon 8 (by kernel_rfl)))
          have NB253_204 := qm_ (Q_NB253_204 (hon 8 (by kernel_rfl)))
          have NB209_253 := qm_ (Q_NB209_253 (hon 8 (by kernel_rfl)))
          have NB253_209 := qm_ (Q_NB253_209 (hon 8 (by kernel_rfl)))
          have NB214_253 := qm_ (Q_NB214_253 (hon 8 (by kernel_rfl)))
          have NB253_214 := qm_ (Q_NB253_214 (hon 8 (by kernel_rfl)))
          have NB220_253 := qm_ (Q_NB220_253 (hon 8 (by kernel_rfl)))
          have NB253_220 := qm_ (Q_NB253_220 (hon 8 (by kernel_rfl)))
          have BK253 := qm_ (Q_BK253_e9 (hon 9 (by kernel_rfl)))
          refine value_ (w1 := w') (v := .bool t252) (by rfl) rfl ?_ ?_
          ·go_simp
           (try simp only [i64_w])
           try rfl
          refine hK.out _ _ ⟨v242, v246, v250, gb253, m1_, m3_, m4_, m5_, m6_, m8_, (by rw [ha.out]; exact putSel_upk 9 hb_ rfl rfl rfl), Q_HO194, Q_HO198, Q_HO202, Q_HO208, Q_HO213, Q_HO218, Q_HO225, Q_HO230, Q_BK187, Q_BK188, Q_BK204, Q_BK209, Q_BK214, Q_BK220, Q_HB, Q_HO243, Q_HO247, Q_HO251, fun _ h1_ => absurd ((hon 9 (by kernel_rfl)).symm.trans h1_) (by decide), Q_GW253, Q_GE253, Q_NB187_253, Q_NB253_187, Q_NB188_253, Q_NB253_188, Q_NB204_253, Q_NB253_204, Q_NB209_253, Q_NB253_209, Q_NB214_253, Q_NB253_214, Q_NB220_253, Q_NB253_220, Q_BK253_e9, Q_X1_, Q_X3_, Q_X4_, Q_X5_, Q_X6_, Q_X8_⟩
         exact steps_nil
        rintro b a w119 hall ⟨v242, v246, v250, gb253, m1_, m3_, m4_, m5_, m6_, m8_, ha, Q_HO194, Q_HO198, Q_HO202, Q_HO208, Q_HO213, Q_HO218, Q_HO225, Q_HO230, Q_BK187, Q_BK188, Q_BK204, Q_BK209, Q_BK214, Q_BK220, Q_HB, Q_HO243, Q_HO247, Q_HO251, Q_BK253, Q_GW253, Q_GE253, Q_NB187_253, Q_NB253_187, Q_NB188_253, Q_NB253_188, Q_NB204_253, Q_NB253_204, Q_NB209_253, Q_NB253_209, Q_NB214_253, Q_NB253_214, Q_NB220_253, Q_NB253_220, Q_BK253_e9, Q_X1_, Q_X3_, Q_X4_, Q_X5_, Q_X6_, Q_X8_⟩
        clear BK187 BK188 BK204 BK209 BK214 BK220 HB HO194 HO198 HO202 HO208 HO213 HO218 HO225 HO230
        have hb0_ := hall 0 (by kernel_rfl)
        have hb1_ := hall 1 (by kernel_rfl)
        have hb2_ := hall 2 (by kernel_rfl)
        have hb3_ := hall 3 (by kernel_rfl)
        have hb4_ := hall 4 (by kernel_rfl)
        have hb5_ := hall 5 (by kernel_rfl)
        have hb6_ := hall 6 (by kernel_rfl)
        have hb7_ := hall 7 (by kernel_rfl)
        have hb8_ := hall 8 (by kernel_rfl)
        have hb9_ := hall 9 (by kernel_rfl)
        have hb10_ := hall 10 (by kernel_rfl)
        subst ha
        obtain rfl := Q_X1_ hb1_
        obtain rfl := Q_X3_ hb3_
        obtain rfl := Q_X4_ hb4_
        obtain rfl := Q_X5_ hb5_
        obtain rfl := Q_X6_ hb6_
        obtain rfl := Q_X8_ hb8_
        simp only [putSel, hb0_, hb1_, hb2_, hb3_, hb4_, hb5_, hb6_, hb7_, hb8_, hb9_, hb10_, if_true, Act.put, List.setIfInBounds_toArray, List.set_cons_zero, List.set_cons_succ]
        have HO194 := qm_ Q_HO194
        clear Q_HO194
        have HO198 := qm_ Q_HO198
        clear Q_HO198
        have HO202 := qm_ Q_HO202
        clear Q_HO202
        have HO208 := qm_ Q_HO208
        clear Q_HO208
        have HO213 := qm_ Q_HO213
        clear Q_HO213
        have HO218 := qm_ Q_HO218
        clear Q_HO218
        have HO225 := qm_ Q_HO225
        clear Q_HO225
        have HO230 := qm_ Q_HO230
        clear Q_HO230
        have BK187 := qm_ Q_BK187
        clear Q_BK187
        have BK188 := qm_ Q_BK188
        clear Q_BK188
        have BK204 := qm_ Q_BK204
        clear Q_BK204
        have BK209 := qm_ Q_BK209
        clear Q_BK209
        have BK214 := qm_ Q_BK214
        clear Q_BK214
        have BK220 := qm_ Q_BK220
        clear Q_BK220
        have HB := qm_ Q_HB
        clear Q_HB
        have HO243 := qm_ (Q_HO243 hb1_)
        clear Q_HO243
        have HO247 := qm_ (Q_HO247 hb3_)
        clear Q_HO247
        have HO251 := qm_ (Q_HO251 hb4_)
        clear Q_HO251
        clear Q_BK253
        have GW253 := qm_ (Q_GW253 hb8_)
        clear Q_GW253
        have GE253 := qm_ (Q_GE253 hb8_)
        clear Q_GE253
        have NB187_253 := qm_ (Q_NB187_253 hb8_)
        clear Q_NB187_253
        have NB253_187 := qm_ (Q_NB253_187 hb8_)
        clear Q_NB253_187
        have NB188_253 := qm_ (Q_NB188_253 hb8_)
        clear Q_NB188_253
        have NB253_188 := qm_ (Q_NB253_188 hb8_)
        clear Q_NB253_188
        have NB204_253 := qm_ (Q_NB204_253 hb8_)
        clear Q_NB204_253
        have NB253_204 := qm_ (Q_NB253_204 hb8_)
        clear Q_NB253_204
        have NB209_253 := qm_ (Q_NB209_253 hb8_)
        clear Q_NB209_253
        have NB253_209 := qm_ (Q_NB253_209 hb8_)
        clear Q_NB253_209
        have NB214_253 := qm_ (Q_NB214_253 hb8_)
        clear Q_NB214_253
        have NB253_214 := qm_ (Q_NB253_214 hb8_)
        clear Q_NB253_214
        have NB220_253 := qm_ (Q_NB220_253 hb8_)
        clear Q_NB220_253
        have NB253_220 := qm_ (Q_NB253_220 hb8_)
        clear Q_NB253_220
        have BK253 := qm_ (Q_BK253_e9 hb9_)
        clear Q_BK253_e9
        clear hall hb0_ hb1_ hb2_ hb3_ hb4_ hb5_ hb6_ hb7_ hb8_ hb9_ hb10_
        have hnb120 := NB253_187.out
        have hnc120 := NB187_253.out
        have hnb121 := NB253_188.out
        have hnc121 := NB188_253.out
        have hnb122 := NB253_204.out
        have hnc122 := NB204_253.out
        have hnb123 := NB253_209.out
        have hnc123 := NB209_253.out
        have hnb124 := NB253_214.out
        have hnc124 := NB214_253.out
        have hnb125 := NB253_220.out
        have hnc125 := NB220_253.out
        have hcz126_0 : w119.cell? ⟨gb253, 0, none⟩ = some (.int .i64 t248) := (blk_cell BK253.out 0).trans rfl
        have hcz126_1 : w119.cell? ⟨gb253, 1, none⟩ = some (v250) := (blk_cell BK253.out 1).trans rfl
        have hfz126_0 := blk_frozen BK253.out 0
        have hfz126_1 := blk_frozen BK253.out 1
        have hcz127_0 : w119.cell? ⟨gb204, 0, none⟩ = some (.int .i64 t199) := (blk_cell BK204.out 0).trans rfl
        have hcz127_1 : w119.cell? ⟨gb204, 1, none⟩ = some (.slice Ao88 t200.length co88) := (blk_cell BK204.out 1).trans rfl
        have hfz127_0 := blk_frozen BK204.out 0
        have hfz127_1 := blk_frozen BK204.out 1
        obtain ⟨Ao128, co128, eo128⟩ := Kd.R_slice HO251.out
        subst eo128
        try go_wp2_with (first | ((with_reducible refine gate_callee (f := 15) rfl ?_); refine goesL_ (some 104) rfl rfl Try.func15 (by kernel_rfl) rfl #[.agg #[.int .i64 t248, .slice Ao128 t249.length co128], .agg #[.int .i64 t199, .slice Ao88 t200.length co88]] rfl (by (try simp only [List.map_toArray, List.map_cons, List.map_nil]); first | done | rfl | (simp only [List.length_drop, List.length_take]; rfl)) ?_; (with_reducible refine (laws_eqBits.calls k t248 _ _ t249 t199 _ _ t200 true _ ?side1 ?side2 ?side3 ?side4 A34.out).mono ?_); (case side1 => repeat (first | exact (Kd.R_reads' HO251.out).2.2 | (with_reducible refine Kd.C_alloc ?_ _) | (with_reducible refine Kd.C_drewN ?_ _) | (with_reducible refine Kd.C_drew ?_))); (case side2 => exact (Kd.R_reads' HO251.out).2.1); (case side3 => repeat (first | exact (Kd.R_reads' HO202.out).2.2 | (with_reducible refine Kd.C_alloc ?_ _) | (with_reducible refine Kd.C_drewN ?_ _) | (with_reducible refine Kd.C_drew ?_))); (case side4 => exact (Kd.R_reads' HO202.out).2.1); rintro e w129 ⟨rfl, hb⟩; refine ⟨_, rfl, ?_⟩; have n0_ := qm_ (qb_ (by (with_reducible repeat (first | apply qa_ | apply qn_ | apply qd_)); exact HO194.out) hb); have n1_ := qm_ (qb_ (by (with_reducible repeat (first | apply qa_ | apply qn_ | apply qd_)); exact HO198.out) hb); have n2_ := qm_ (qb_ (by (with_reducible repeat (first | apply qa_ | apply qn_ | apply qd_)); exact HO202.out) hb); have n3_ := qm_ (qb_ (by (with_reducible repeat (first | apply qa_ | apply qn_ | apply qd_)); exact HO208.out) hb); have n4_ := qm_ (qb_ (by (with_reducible repeat (first | apply qa_ | apply qn_ | apply qd_)); exact HO213.out) hb); have n5_ := qm_ (qb_ (by (with_reducible repeat (first | apply qa_ | apply qn_ | apply qd_)); exact HO218.out) hb); have n6_ := qm_ (qb_ (by (with_reducible repeat (first | apply qa_ | apply qn_ | apply qd_)); exact HO225.out) hb); have n7_ := qm_ (qb_ (by (with_reducible repeat (first | apply qa_ | apply qn_ | apply qd_)); exact HO230.out) hb); have n8_ := qm_ (qb_ (by (with_reducible repeat (first | apply qa_ | apply qn_ | apply qd_)); exact HO243.out) hb); have n9_ := qm_ (qb_ (by (with_reducible repeat (first | apply qa_ | apply qn_ | apply qd_)); exact HO247.out) hb); have n10_ := qm_ (qb_ (by (with_reducible repeat (first | apply qa_ | apply qn_ | apply qd_)); exact HO251.out) hb); have n11_ := qm_ (qs_ (g := gb187) (o := .cells #[.int .i64 a0_0, .slice A0_1 l0_1.length c0_1] 34 (0, 0)) (by (with_reducible repeat (first | refine qu_ ?_ _ | refine qv_ ?_ | refine qw_ ?_ _)); exact BK187.out) hb); have n12_ := qm_ (qs_ (g := gb188) (o := .cells #[.int .i64 a1_0, .slice A1_1 l1_1.length c1_1] 34 (0, 0)) (by (with_reducible repeat (first | refine qu_ ?_ _ | refine qv_ ?_ | refine qw_ ?_ _)); exact BK188.out) hb); have n13_ := qm_ (qs_ (g := gb204) (o := .cells #[.int .i64 t199, .slice Ao88 t200.length co88] 24 (0, 0)) (by (with_reducible repeat (first | refine qu_ ?_ _ | refine qv_ ?_ | refine qw_ ?_ _)); exact BK204.out) hb); have n14_ := qm_ (qs_ (g := gb209) (o := .cells #[.int .i64 t205, .slice Ao66 t206.length co66] 24 (0, 0)) (by (with_reducible repeat (first | refine qu_ ?_ _ | refine qv_ ?_ | refine qw_ ?_ _)); exact BK209.out) hb); have n15_ := qm_ (qs_ (g := gb214) (o := .cells #[.int .i64 t210, .slice Ao76 t211.length co76] 24 (0, 0)) (by (with_reducible repeat (first | refine qu_ ?_ _ | refine qv_ ?_ | refine qw_ ?_ _)); exact BK214.out) hb); have n16_ := qm_ (qs_ (g := gb220) (o := .cells #[.int .i64 t215, .slice Ao86 t216.length co86] 24 (0, 0)) (by (with_reducible repeat (first | refine qu_ ?_ _ | refine qv_ ?_ | refine qw_ ?_ _)); exact BK220.out) hb); have n17_ := qm_ (qs_ (g := gb253) (o := .cells #[.int .i64 t248, .slice Ao128 t249.length co128] 24 (0, 0)) (by (with_reducible repeat (first | refine qu_ ?_ _ | refine qv_ ?_ | refine qw_ ?_ _)); exact BK253.out) hb); have n18_ := qm_ (qh_ (by repeat (first | (with_reducible first | exact HB.out | apply qc_ | apply qx_ | apply qf_ | refine qg_ ?_ GE187.out | refine qg_ ?_ GE188.out | refine qg_ ?_ GE204.out | refine qg_ ?_ GE209.out | refine qg_ ?_ GE214.out | refine qg_ ?_ GE220.out | refine qg_ ?_ GE253.out) | exact HB.out)) hb); clear HO194; clear HO198; clear HO202; clear HO208; clear HO213; clear HO218; clear HO225; clear HO230; clear HO243; clear HO247; clear HO251; clear BK187; clear BK188; clear BK204; clear BK209; clear BK214; clear BK220; clear BK253; clear HB; have HO194 := n0_; have HO198 := n1_; have HO202 := n2_; have HO208 := n3_; have HO213 := n4_; have HO218 := n5_; have HO225 := n6_; have HO230 := n7_; have HO243 := n8_; have HO247 := n9_; have HO251 := n10_; have BK187 := n11_; have BK188 := n12_; have BK204 := n13_; have BK209 := n14_; have BK214 := n15_; have BK220 := n16_; have BK253 := n17_; have HB := n18_; clear n0_ n1_ n2_ n3_ n4_ n5_ n6_ n7_ n8_ n9_ n10_ n11_ n12_ n13_ n14_ n15_ n16_ n17_ n18_; (try clear hb); (try clear hb2); (try clear hk); (try clear hi); have hcz130_0 : w129.cell? ⟨gb220, 0, none⟩ = some (.int .i64 t215) := (blk_cell BK220.out 0).trans rfl; have hcz130_1 : w129.cell? ⟨gb220, 1, none⟩ = some (.slice Ao86 t216.length co86) := (blk_cell BK220.out 1).trans rfl; have hfz130_0 := blk_frozen BK220.out 0; have hfz130_1 := blk_frozen BK220.out 1) | ((with_reducible refine gate_callee (f := 17) rfl ?_); refine goesL_ (some 113) rfl rfl Try.func17 (by kernel_rfl) rfl #[.agg #[.int .i64 t215, .slice Ao86 t238.length co86], .int .i64 1] rfl (by (try simp only [List.map_toArray, List.map_cons, List.map_nil]); first | done | (rw [show t238.length = t216.length from (Kd.R_reads' HO218.out).1.symm] <;> rfl) | rfl | (simp only [List.length_drop, List.length_take]; rfl)) ?_; (with_reducible refine (laws_heldBits.calls k t215 _ _ t238 1 t255 _ ?side1 ?side2 A37.out).mono ?_); (case side1 => repeat (first | exact (Kd.R_reads' HO218.out).2.2 | (with_reducible refine Kd.C_alloc ?_ _) | (with_reducible refine Kd.C_drewN ?_ _) | (with_reducible refine Kd.C_drew ?_))); (case side2 => rw [show t238.length = t216.length from (Kd.R_reads' HO218.out).1.symm]; exact (Kd.R_reads' HO218.out).2.1); rintro e w131 ⟨rfl, hb⟩; refine ⟨_, rfl, ?_⟩; have n0_ := qm_ (qb_ (by (with_reducible repeat (first | apply qa_ | apply qn_ | apply qd_)); exact HO194.out) hb); have n1_ := qm_ (qb_ (by (with_reducible repeat (first | apply qa_ | apply qn_ | apply qd_)); exact HO198.out) hb); have n2_ := qm_ (qb_ (by (with_reducible repeat (first | apply qa_ | apply qn_ | apply qd_)); exact HO202.out) hb); have n3_ := qm_ (qb_ (by (with_reducible repeat (first | apply qa_ | apply qn_ | apply qd_)); exact HO208.out) hb); have n4_ := qm_ (qb_ (by (with_reducible repeat (first | apply qa_ | apply qn_ | apply qd_)); exact HO213.out) hb); have n5_ := qm_ (qb_ (by (with_reducible repeat (first | apply qa_ | apply qn_ | apply qd_)); exact HO218.out) hb); have n6_ := qm_ (qb_ (by (with_reducible repeat (first | apply qa_ | apply qn_ | apply qd_)); exact HO225.out) hb); have n7_ := qm_ (qb_ (by (with_reducible repeat (first | apply qa_ | apply qn_ | apply qd_)); exact HO230.out) hb); have n8_ := qm_ (qb_ (by (with_reducible repeat (first | apply qa_ | apply qn_ | apply qd_)); exact HO243.out) hb); have n9_ := qm_ (qb_ (by (with_reducible repeat (first | apply qa_ | apply qn_ | apply qd_)); exact HO247.out) hb); have n10_ := qm_ (qb_ (by (with_reducible repeat (first | apply qa_ | apply qn_ | apply qd_)); exact HO251.out) hb); have n11_ := qm_ (qs_ (g := gb187) (o := .cells #[.int .i64 a0_0, .slice A0_1 l0_1.length c0_1] 34 (0, 0)) (by (with_reducible repeat (first | refine qu_ ?_ _ | refine qv_ ?_ | refine qw_ ?_ _)); exact BK187.out) hb); have n12_ := qm_ (qs_ (g := gb188) (o := .cells #[.int .i64 a1_0, .slice A1_1 l1_1.length c1_1] 34 (0, 0)) (by (with_reducible repeat (first | refine qu_ ?_ _ | refine qv_ ?_ | refine qw_ ?_ _)); exact BK188.out) hb); have n13_ := qm_ (qs_ (g := gb204) (o := .cells #[.int .i64 t199, .slice Ao88 t200.length co88] 24 (0, 0)) (by (with_reducible repeat (first | refine qu_ ?_ _ | refine qv_ ?_ | refine qw_ ?_ _)); exact BK204.out) hb); have n14_ := qm_ (qs_ (g := gb209) (o := .cells #[.int .i64 t205, .slice Ao66 t206.length co66] 24 (0, 0)) (by (with_reducible repeat (first | refine qu_ ?_ _ | refine qv_ ?_ | refine qw_ ?_ _)); exact BK209.out) hb); have n15_ := qm_ (qs_ (g := gb214) (o := .cells #[.int .i64 t210, .slice Ao76 t211.length co76] 24 (0, 0)) (by (with_reducible repeat (first | refine qu_ ?_ _ | refine qv_ ?_ | refine qw_ ?_ _)); exact BK214.out) hb); have n16_ := qm_ (qs_ (g := gb220) (o := .cells #[.int .i64 t215, .slice Ao86 t216.length co86] 24 (0, 0)) (by (with_reducible repeat (first | refine qu_ ?_ _ | refine qv_ ?_ | refine qw_ ?_ _)); exact BK220.out) hb); have n17_ := qm_ (qs_ (g := gb253) (o := .cells #[.int .i64 t248, .slice Ao128 t249.length co128] 24 (0, 0)) (by (with_reducible repeat (first | refine qu_ ?_ _ | refine qv_ ?_ | refine qw_ ?_ _)); exact BK253.out) hb); have n18_ := qm_ (qh_ (by repeat (first | (with_reducible first | exact HB.out | apply qc_ | apply qx_ | apply qf_ | refine qg_ ?_ GE187.out | refine qg_ ?_ GE188.out | refine qg_ ?_ GE204.out | refine qg_ ?_ GE209.out | refine qg_ ?_ GE214.out | refine qg_ ?_ GE220.out | refine qg_ ?_ GE253.out) | exact HB.out)) hb); clear HO194; clear HO198; clear HO202; clear HO208; clear HO213; clear HO218; clear HO225; clear HO230; clear HO243; clear HO247; clear HO251; clear BK187; clear BK188; clear BK204; clear BK209; clear BK214; clear BK220; clear BK253; clear HB; have HO194 := n0_; have HO198 := n1_; have HO202 := n2_; have HO208 := n3_; have HO213 := n4_; have HO218 := n5_; have HO225 := n6_; have HO230 := n7_; have HO243 := n8_; have HO247 := n9_; have HO251 := n10_; have BK187 := n11_; have BK188 := n12_; have BK204 := n13_; have BK209 := n14_; have BK214 := n15_; have BK220 := n16_; have BK253 := n17_; have HB := n18_; clear n0_ n1_ n2_ n3_ n4_ n5_ n6_ n7_ n8_ n9_ n10_ n11_ n12_ n13_ n14_ n15_ n16_ n17_ n18_; (try clear hb); (try clear hb2); (try clear hk); (try clear hi)))
        go_ret
        exact ⟨by first | rfl | (simp [errW_none, errW_some] <;> rfl) | (simp [*, errW_none, errW_some] <;> rfl), by repeat (first | (with_reducible first | exact HB.out | apply qc_ | apply qx_ | apply qf_ | refine qg_ ?_ GE187.out | refine qg_ ?_ GE188.out | refine qg_ ?_ GE204.out | refine qg_ ?_ GE209.out | refine qg_ ?_ GE214.out | refine qg_ ?_ GE220.out | refine qg_ ?_ GE253.out) | exact HB.out)⟩
       rw [if_pos c38] at H
       have c38b0 : decide (t255 < 0) = true := decide_eq_true c38
       clear c38
       obtain rfl := Option.some.inj H
       exact absurd ht_.out (by simp)
      rw [if_pos c36] at H
      have c36b0 : (t252 != t203) = true := c36
      (try (have c36b1 : decide (t252 = t203) = false := by simpa using c36))
      (try (have c36b2 : (t252 == t203) = false := by simpa using c36))
      (try (have c36b3 : ¬ (t252 = t203) := by simpa using c36))
      clear c36
      obtain rfl := Option.some.inj H
      exact absurd ht_.out (by simp)
     rw [if_pos c29] at H
     have c29b0 : decide (t239 < 0) = true := decide_eq_true c29
     clear c29
     obtain rfl := Option.some.inj H
     exact absurd ht_.out (by simp)
    rw [if_pos c24] at H
    have c24b0 : decide (t234 < 0) = true := decide_eq_true c24
    clear c24
    obtain rfl := Option.some.inj H
    exact absurd ht_.out (by simp)
   rw [if_pos c15] at H
   have c15b0 : (t219 != t203) = true := c15
   (try (have c15b1 : decide (t219 = t203) = false := by simpa using c15))
   (try (have c15b2 : (t219 == t203) = false := by simpa using c15))
   (try (have c15b3 : ¬ (t219 = t203) := by simpa using c15))
   clear c15
   obtain rfl := Option.some.inj H
   exact absurd ht_.out (by simp)
  rw [if_pos c6] at H
  have c6b0 : decide (t190 < 0) = true := decide_eq_true c6
  clear c6
  obtain rfl := Option.some.inj H
  go_enter Try.func9, Try.ntmps9
  go_wp2_with (first | ((with_reducible refine gate_dst (N := 2) rfl ?_); refine box_event ?hg (N := 2) ?hd (cs := #[.int .i64 a0_0, .slice A0_1 l0_1.length c0_1]) (t := 34) ?hr ?_; (case hd => rfl); (case hg => rfl); (case hr => first | (go_simp; done) | (go_simp; rfl)); intro gb187 hg w132 hbox hb; have n0_ := qm_ (qh_ (by repeat (first | (with_reducible first | exact HB.out | apply qc_ | apply qx_ | apply qf_) | exact HB.out)) hb); have n1_ := qm_ (hbox); have n2_ := qm_ ((by rw [hg]; exact (qz_ (by repeat (first | (with_reducible first | exact HB.out | apply qc_ | apply qx_ | apply qf_) | exact HB.out))) : w.heap.size ≤ gb187)); have n3_ := qm_ ((by rw [hg]; exact (qz_ (by repeat (first | (with_reducible first | exact HB.out | apply qc_ | apply qx_ | apply qf_) | exact HB.out))) : w.heap.size ≤ gb187)); clear HB; have HB := n0_; have BK187 := n1_; have GW187 := n2_; have GE187 := n3_; clear n0_ n1_ n2_ n3_; clear hb hbox hg) | ((with_reducible refine gate_dst (N := 3) rfl ?_); refine box_event ?hg (N := 3) ?hd (cs := #[.int .i64 a1_0, .slice A1_1 l1_1.length c1_1]) (t := 34) ?hr ?_; (case hd => rfl); (case hg => rfl); (case hr => first | (go_simp; done) | (go_simp; rfl)); intro gb188 hg w133 hbox hb; have n0_ := qm_ (qs_ (g := gb187) (o := .cells #[.int .i64 a0_0, .slice A0_1 l0_1.length c0_1] 34 (0, 0)) (by (with_reducible repeat (first | refine qu_ ?_ _ | refine qv_ ?_ | refine qw_ ?_ _)); exact BK187.out) hb); have n1_ := qm_ (qh_ (by repeat (first | (with_reducible first | exact HB.out | apply qc_ | apply qx_ | apply qf_ | refine qg_ ?_ GE187.out) | exact HB.out)) hb); have n2_ := qm_ (hbox); have n3_ := qm_ ((by rw [hg]; exact (qz_ (by repeat (first | (with_reducible first | exact HB.out | apply qc_ | apply qx_ | apply qf_ | refine qg_ ?_ GE187.out) | exact HB.out))) : w.heap.size ≤ gb188)); have n4_ := qm_ ((by rw [hg]; exact (qz_ (by repeat (first | (with_reducible first | exact HB.out | apply qc_ | apply qx_ | apply qf_ | refine qg_ ?_ GE187.out) | exact HB.out))) : w.heap.size ≤ gb188)); have n5_ := qm_ ((by rw [hg]; exact Nat.ne_of_lt (blk_lt (g := gb187) (o := .cells #[.int .i64 a0_0, .slice A0_1 l0_1.length c0_1] 34 (0, 0)) (by (with_reducible repeat (first | refine qu_ ?_ _ | refine qv_ ?_ | refine qw_ ?_ _)); exact BK187.out)) : gb187 ≠ gb188)); have n6_ := qm_ ((by rw [hg]; exact Nat.ne_of_gt (blk_lt (g := gb187) (o := .cells #[.int .i64 a0_0, .slice A0_1 l0_1.length c0_1] 34 (0, 0)) (by (with_reducible repeat (first | refine qu_ ?_ _ | refine qv_ ?_ | refine qw_ ?_ _)); exact BK187.out)) : gb188 ≠ gb187)); clear BK187; clear HB; have BK187 := n0_; have HB := n1_; have BK188 := n2_; have GW188 := n3_; have GE188 := n4_; have NB187_188 := n5_; have NB188_187 := n6_; clear n0_ n1_ n2_ n3_ n4_ n5_ n6_; clear hb hbox hg; have hnb134 := NB187_188.out; have hnc134 := NB188_187.out; have hcz135_0 : w133.cell? ⟨gb187, 0, none⟩ = some (.int .i64 a0_0) := (blk_cell BK187.out 0).trans rfl; have hcz135_1 : w133.cell? ⟨gb187, 1, none⟩ = some (.slice A0_1 l0_1.length c0_1) := (blk_cell BK187.out 1).trans rfl; have hfz135_0 := blk_frozen BK187.out 0; have hfz135_1 := blk_frozen BK187.out 1) | ((with_reducible refine gate_callee (f := 22) rfl ?_); refine goesL_ (some 19) rfl rfl Try.func22 (by kernel_rfl) rfl #[.agg #[.int .i64 a0_0, .slice A0_1 l0_1.length c0_1], .int .i64 1048576] rfl (by (try simp only [List.map_toArray, List.map_cons, List.map_nil]); first | done | rfl | (simp only [List.length_drop, List.length_take]; rfl)) ?_; (with_reducible refine (laws_szBits.calls a0_0 _ _ l0_1 1048576 t189 _ ?side1 ?side2 A3.out).mono ?_); (case side1 => repeat (first | exact (Kd.C_below HR0_1.out HB.out) | (with_reducible refine Kd.C_alloc ?_ _) | (with_reducible refine Kd.C_drewN ?_ _) | (with_reducible refine Kd.C_drew ?_))); (case side2 => exact HC0_1.out); rintro e w136 ⟨rfl, hb⟩; refine ⟨_, rfl, ?_⟩; have n0_ := qm_ (qs_ (g := gb187) (o := .cells #[.int .i64 a0_0, .slice A0_1 l0_1.length c0_1] 34 (0, 0)) (by (with_reducible repeat (first | refine qu_ ?_ _ | refine qv_ ?_ | refine qw_ ?_ _)); exact BK187.out) hb); have n1_ := qm_ (qs_ (g := gb188) (o := .cells #[.int .i64 a1_0, .slice A1_1 l1_1.length c1_1] 34 (0, 0)) (by (with_reducible repeat (first | refine qu_ ?_ _ | refine qv_ ?_ | refine qw_ ?_ _)); exact BK188.out) hb); have n2_ := qm_ (qh_ (by repeat (first | (with_reducible first | exact HB.out | apply qc_ | apply qx_ | apply qf_ | refine qg_ ?_ GE187.out | refine qg_ ?_ GE188.out) | exact HB.out)) hb); clear BK187; clear BK188; clear HB; have BK187 := n0_; have BK188 := n1_; have HB := n2_; clear n0_ n1_ n2_; (try clear hb); (try clear hb2); (try clear hk); (try clear hi); have hcz137_0 : w136.cell? ⟨gb188, 0, none⟩ = some (.int .i64 a1_0) := (blk_cell BK188.out 0).trans rfl; have hcz137_1 : w136.cell? ⟨gb188, 1, none⟩ = some (.slice A1_1 l1_1.length c1_1) := (blk_cell BK188.out 1).trans rfl; have hfz137_0 := blk_frozen BK188.out 0; have hfz137_1 := blk_frozen BK188.out 1) | ((with_reducible refine gate_callee (f := 22) rfl ?_); refine goesL_ (some 24) rfl rfl Try.func22 (by kernel_rfl) rfl #[.agg #[.int .i64 a1_0, .slice A1_1 l1_1.length c1_1], .int .i64 t189] rfl (by (try simp only [List.map_toArray, List.map_cons, List.map_nil]); first | done | rfl | (simp only [List.length_drop, List.length_take]; rfl)) ?_; (with_reducible refine (laws_szBits.calls a1_0 _ _ l1_1 t189 t190 _ ?side1 ?side2 A5.out).mono ?_); (case side1 => repeat (first | exact (Kd.C_below HR1_1.out HB.out) | (with_reducible refine Kd.C_alloc ?_ _) | (with_reducible refine Kd.C_drewN ?_ _) | (with_reducible refine Kd.C_drew ?_))); (case side2 => exact HC1_1.out); rintro e w138 ⟨rfl, hb⟩; refine ⟨_, rfl, ?_⟩; have n0_ := qm_ (qs_ (g := gb187) (o := .cells #[.int .i64 a0_0, .slice A0_1 l0_1.length c0_1] 34 (0, 0)) (by (with_reducible repeat (first | refine qu_ ?_ _ | refine qv_ ?_ | refine qw_ ?_ _)); exact BK187.out) hb); have n1_ := qm_ (qs_ (g := gb188) (o := .cells #[.int .i64 a1_0, .slice A1_1 l1_1.length c1_1] 34 (0, 0)) (by (with_reducible repeat (first | refine qu_ ?_ _ | refine qv_ ?_ | refine qw_ ?_ _)); exact BK188.out) hb); have n2_ := qm_ (qh_ (by repeat (first | (with_reducible first | exact HB.out | apply qc_ | apply qx_ | apply qf_ | refine qg_ ?_ GE187.out | refine qg_ ?_ GE188.out) | exact HB.out)) hb); clear BK187; clear BK188; clear HB; have BK187 := n0_; have BK188 := n1_; have HB := n2_; clear n0_ n1_ n2_; (try clear hb); (try clear hb2); (try clear hk); (try clear hi)))
  go_ret
  exact ⟨by first | rfl | (simp [errW_none, errW_some] <;> rfl) | (simp [*, errW_none, errW_some] <;> rfl), by repeat (first | (with_reducible first | exact HB.out | apply qc_ | apply qx_ | apply qf_ | refine qg_ ?_ GE187.out | refine qg_ ?_ GE188.out) | exact HB.out)⟩
 rw [if_pos c4] at H
 have c4b0 : decide (t189 < 0) = true := decide_eq_true c4
 clear c4
 obtain rfl := Option.some.inj H
 go_enter Try.func9, Try.ntmps9
 go_wp2_with (first | ((with_reducible refine gate_dst (N := 2) rfl ?_); refine box_event ?hg (N := 2) ?hd (cs := #[.int .i64 a0_0, .slice A0_1 l0_1.length c0_1]) (t := 34) ?hr ?_; (case hd => rfl); (case hg => rfl); (case hr => first | (go_simp; done) | (go_simp; rfl)); intro gb187 hg w139 hbox hb; have n0_ := qm_ (qh_ (by repeat (first | (with_reducible first | exact HB.out | apply qc_ | apply qx_ | apply qf_) | exact HB.out)) hb); have n1_ := qm_ (hbox); have n2_ := qm_ ((by rw [hg]; exact (qz_ (by repeat (first | (with_reducible first | exact HB.out | apply qc_ | apply qx_ | apply qf_) | exact HB.out))) : w.heap.size ≤ gb187)); have n3_ := qm_ ((by rw [hg]; exact (qz_ (by repeat (first | (with_reducible first | exact HB.out | apply qc_ | apply qx_ | apply qf_) | exact HB.out))) : w.heap.size ≤ gb187)); clear HB; have HB := n0_; have BK187 := n1_; have GW187 := n2_; have GE187 := n3_; clear n0_ n1_ n2_ n3_; clear hb hbox hg) | ((with_reducible refine gate_dst (N := 3) rfl ?_); refine box_event ?hg (N := 3) ?hd (cs := #[.int .i64 a1_0, .slice A1_1 l1_1.length c1_1]) (t := 34) ?hr ?_; (case hd => rfl); (case hg => rfl); (case hr => first | (go_simp; done) | (go_simp; rfl)); intro gb188 hg w140 hbox hb; have n0_ := qm_ (qs_ (g := gb187) (o := .cells #[.int .i64 a0_0, .slice A0_1 l0_1.length c0_1] 34 (0, 0)) (by (with_reducible repeat (first | refine qu_ ?_ _ | refine qv_ ?_ | refine qw_ ?_ _)); exact BK187.out) hb); have n1_ := qm_ (qh_ (by repeat (first | (with_reducible first | exact HB.out | apply qc_ | apply qx_ | apply qf_ | refine qg_ ?_ GE187.out) | exact HB.out)) hb); have n2_ := qm_ (hbox); have n3_ := qm_ ((by rw [hg]; exact (qz_ (by repeat (first | (with_reducible first | exact HB.out | apply qc_ | apply qx_ | apply qf_ | refine qg_ ?_ GE187.out) | exact HB.out))) : w.heap.size ≤ gb188)); have n4_ := qm_ ((by rw [hg]; exact (qz_ (by repeat (first | (with_reducible first | exact HB.out | apply qc_ | apply qx_ | apply qf_ | refine qg_ ?_ GE187.out) | exact HB.out))) : w.heap.size ≤ gb188)); have n5_ := qm_ ((by rw [hg]; exact Nat.ne_of_lt (blk_lt (g := gb187) (o := .cells #[.int .i64 a0_0, .slice A0_1 l0_1.length c0_1] 34 (0, 0)) (by (with_reducible repeat (first | refine qu_ ?_ _ | refine qv_ ?_ | refine qw_ ?_ _)); exact BK187.out)) : gb187 ≠ gb188)); have n6_ := qm_ ((by rw [hg]; exact Nat.ne_of_gt (blk_lt (g := gb187) (o := .cells #[.int .i64 a0_0, .slice A0_1 l0_1.length c0_1] 34 (0, 0)) (by (with_reducible repeat (first | refine qu_ ?_ _ | refine qv_ ?_ | refine qw_ ?_ _)); exact BK187.out)) : gb188 ≠ gb187)); clear BK187; clear HB; have BK187 := n0_; have HB := n1_; have BK188 := n2_; have GW188 := n3_; have GE188 := n4_; have NB187_188 := n5_; have NB188_187 := n6_; clear n0_ n1_ n2_ n3_ n4_ n5_ n6_; clear hb hbox hg; have hnb141 := NB187_188.out; have hnc141 := NB188_187.out; have hcz142_0 : w140.cell? ⟨gb187, 0, none⟩ = some (.int .i64 a0_0) := (blk_cell BK187.out 0).trans rfl; have hcz142_1 : w140.cell? ⟨gb187, 1, none⟩ = some (.slice A0_1 l0_1.length c0_1) := (blk_cell BK187.out 1).trans rfl; have hfz142_0 := blk_frozen BK187.out 0; have hfz142_1 := blk_frozen BK187.out 1) | ((with_reducible refine gate_callee (f := 22) rfl ?_); refine goesL_ (some 19) rfl rfl Try.func22 (by kernel_rfl) rfl #[.agg #[.int .i64 a0_0, .slice A0_1 l0_1.length c0_1], .int .i64 1048576] rfl (by (try simp only [List.map_toArray, List.map_cons, List.map_nil]); first | done | rfl | (simp only [List.length_drop, List.length_take]; rfl)) ?_; (with_reducible refine (laws_szBits.calls a0_0 _ _ l0_1 1048576 t189 _ ?side1 ?side2 A3.out).mono ?_); (case side1 => repeat (first | exact (Kd.C_below HR0_1.out HB.out) | (with_reducible refine Kd.C_alloc ?_ _) | (with_reducible refine Kd.C_drewN ?_ _) | (with_reducible refine Kd.C_drew ?_))); (case side2 => exact HC0_1.out); rintro e w143 ⟨rfl, hb⟩; refine ⟨_, rfl, ?_⟩; have n0_ := qm_ (qs_ (g := gb187) (o := .cells #[.int .i64 a0_0, .slice A0_1 l0_1.length c0_1] 34 (0, 0)) (by (with_reducible repeat (first | refine qu_ ?_ _ | refine qv_ ?_ | refine qw_ ?_ _)); exact BK187.out) hb); have n1_ := qm_ (qs_ (g := gb188) (o := .cells #[.int .i64 a1_0, .slice A1_1 l1_1.length c1_1] 34 (0, 0)) (by (with_reducible repeat (first | refine qu_ ?_ _ | refine qv_ ?_ | refine qw_ ?_ _)); exact BK188.out) hb); have n2_ := qm_ (qh_ (by repeat (first | (with_reducible first | exact HB.out | apply qc_ | apply qx_ | apply qf_ | refine qg_ ?_ GE187.out | refine qg_ ?_ GE188.out) | exact HB.out)) hb); clear BK187; clear BK188; clear HB; have BK187 := n0_; have BK188 := n1_; have HB := n2_; clear n0_ n1_ n2_; (try clear hb); (try clear hb2); (try clear hk); (try clear hi)))
 go_ret
 exact ⟨by first | rfl | (simp [errW_none, errW_some] <;> rfl) | (simp [*, errW_none, errW_some] <;> rfl), by repeat (first | (with_reducible first | exact HB.out | apply qc_ | apply qx_ | apply qf_ | refine qg_ ?_ GE187.out | refine qg_ ?_ GE188.out) | exact HB.out)⟩

/-- THE ONE PURE STATEMENT of laws_FnExactBothBits: yours. -/
def laws_FnExactBothBits.Pure : Prop := ∀ (a0_0 : Int) (l0_1 : List Int) (a1_0 : Int) (l1_1 : List Int), ((Lit.int .i64 a0_0).wf = true) → (l0_1.length ≤ maxLen ∧ ∀ y_ ∈ l0_1, (Lit.int .i64 y_).wf = true) → ((Lit.int .i64 a1_0).wf = true) → (l1_1.length ≤ maxLen ∧ ∀ y_ ∈ l1_1, (Lit.int .i64 y_).wf = true) → ∃ k, laws_FnExactBothBits.f k a0_0 l0_1 a1_0 l1_1 = some true

end Go.Proofs.Ytkbboibjhgcphaa.QFnExactBothBits
