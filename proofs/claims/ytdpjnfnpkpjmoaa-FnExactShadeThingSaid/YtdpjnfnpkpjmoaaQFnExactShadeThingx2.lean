-- Written by a program of the session, a changed copy of the kit's print: not the kit's own print; Lean checks it.
import Derived.Test.YtdpjnfnpkpjmoaaQFnExactShadeThingx0
import Derived.Test.YtdpjnfnpkpjmoaaQFnExactShadeThingx1
namespace Go.Proofs.Ytdpjnfnpkpjmoaa.QFnExactShadeThing
open Go.RowKit Go.Proofs.YtdpjnfnpkpjmoaaW.PrintWords Go.Proofs.YtdpjnfnpkpjmoaaW.PrintLast Go.Proofs.YtdpjnfnpkpjmoaaW.PrintMore
attribute [local go_sem] max2_int min2_int max_two min_two max_three min_three max_four min_four   -- for this text's walks alone
set_option linter.unusedVariables false
set_option linter.unusedSimpArgs false

/-! ### slices.ContainsFunc over []int, at whatever predicate that answers (by the session) -/
def anyO (p : Int → Option Bool) : List Int → Option Bool
  | [] => some false
  | x :: xs => (p x).bind fun b => if b = true then some true else anyO p xs
def idxO (p : Int → Option Bool) (i : Nat) : List Int → Option Int
  | [] => some (-1)
  | x :: xs => (p x).bind fun b => if b = true then some (i : Int) else idxO p (i + 1) xs
theorem idxO_any (p : Int → Option Bool) : ∀ (l : List Int) (i : Nat) (b : Bool), anyO p l = some b → ∃ r, idxO p i l = some r ∧ decide (r ≥ 0) = b
  | [], i, b, h => by
    simp only [anyO, Option.some.injEq] at h
    subst h
    exact ⟨-1, rfl, by decide⟩
  | x :: xs, i, b, h => by
    simp only [anyO] at h
    obtain ⟨c, hc, h⟩ := Option.bind_eq_some_iff.1 h
    cases c with
    | true =>
      simp only [if_true, Option.some.injEq] at h
      subst h
      exact ⟨(i : Int), by simp only [idxO, hc, Option.bind_some, if_true], by simp⟩
    | false =>
      simp only [Bool.false_eq_true, if_false] at h
      obtain ⟨r, h1, h2⟩ := idxO_any p xs (i + 1) b h
      exact ⟨r, by simp only [idxO, hc, Option.bind_some, Bool.false_eq_true, if_false]; exact h1, h2⟩
set_option maxHeartbeats 2000000 in
theorem slices_IndexFunc_any (p : Int → Option Bool) (g : Nat) (lb : Array Value) (A0 : Option Addr) (c0 : Nat) (l0 : List Int) (r : Int) (w : World) (eg : ∀ args W, (callFunc g args).run Try.prog W = .ok (.enter g args) W)
    (hp : ∀ (x : Int) (b : Bool) (W : World), Below w.heap.size w W → p x = some b → Calls Try.prog g (#[.int .i64 x] ++ lb) W fun e w' => e = .returned (.bool b) ∧ Below W.heap.size W w')
    (hr0 : Kd.C (Kd.int .i64) w A0 l0.length l0) (hc0 : l0.length ≤ c0) (h : idxO p 0 l0 = some r) :
    Calls Try.prog 91 #[.slice A0 l0.length c0, .func (.func g) #[] lb] w fun e w' => e = .returned (.int .i64 r) ∧ Below w.heap.size w w' := by
  have HR := Aside0.mk hr0
  have HH := Aside0.mk h
  have HPP := Aside0.mk hp
  have hbig : l0.length ≤ 9223372036854775807 := hr0.2.1
  clear hr0 h hp
  go_enter Try.func91, Try.ntmps91
  go_wp2
  go_loopg [5, 8] l0.length (fun gg _ s8 wr => ∃ kk : Nat, kk ≤ l0.length ∧ l0.length - kk ≤ gg ∧ s8 = .int .i64 kk ∧ Aside0 (idxO p kk (l0.drop kk) = some r) ∧ Aside0 (Below w.heap.size w wr))
  case atStart => exact ⟨0, Nat.zero_le _, by omega, rfl, ⟨by simpa using HH.out⟩, ⟨Below.refl _ _⟩⟩
  case round =>
    obtain ⟨kk, hkk, hg, rfl, HA, HB⟩ := hrel
    by_cases hlt : kk < l0.length
    · have hltz : (kk : Int) < (l0.length : Int) := by omega
      have hd : l0.drop kk = l0[kk] :: l0.drop (kk + 1) := List.drop_eq_getElem_cons hlt
      obtain ⟨ad, e1, hx0⟩ := Kd.at_int HR.out (kk : Int) (by omega) (by omega)
      have hrd : rd l0 (kk : Int) = l0[kk] := by
        unfold rd
        rw [Int.toNat_natCast, List.getD_eq_getElem?_getD, List.getElem?_eq_getElem hlt]
        rfl
      rw [hrd, Int.toNat_natCast] at hx0
      cases e1
      have hx := (HB.out.cell (World.block_lt_of_cell? w _ hx0)).trans hx0
      clear hx0 hrd
      have HA2 := HA.out
      clear HA
      rw [hd] at HA2
      clear hd
      simp only [idxO] at HA2
      generalize l0[kk] = y at hx HA2
      obtain ⟨b, hb, HA3⟩ := Option.bind_eq_some_iff.1 HA2
      clear HA2
      have HC := Aside0.mk (HPP.out y b wr HB.out hb)
      clear hb
      cases b with
      | true =>
        simp only [if_true, Option.some.injEq] at HA3
        subst HA3
        go_wp2_with (fail)
        refine (HC.out).mono ?_
        rintro e w' ⟨rfl, hbb⟩
        have HB2 := Aside0.mk hbb
        clear hbb
        go_wp2
        go_ret
        exact ⟨rfl, HB.out.trans (HB2.out.mono HB.out.size)⟩
      | false =>
        simp only [Bool.false_eq_true, if_false] at HA3
        have HA4 := Aside0.mk HA3
        clear HA3
        go_wp2_with (fail)
        refine (HC.out).mono ?_
        rintro e w' ⟨rfl, hbb⟩
        have HB2 := Aside0.mk hbb
        clear hbb
        go_wp2
        go_roundg (l0.length - (kk + 1))
        case measure => omega
        case rel => exact ⟨kk + 1, by omega, by omega, by go_num, HA4, ⟨HB.out.trans (HB2.out.mono HB.out.size)⟩⟩
    · have hltz : ¬ (kk : Int) < (l0.length : Int) := by omega
      have e2 : kk = l0.length := by omega
      subst e2
      have HA2 := HA.out
      clear HA
      rw [List.drop_length] at HA2
      simp only [idxO, Option.some.injEq] at HA2
      subst HA2
      go_wp2
      go_ret
      exact ⟨rfl, HB.out⟩
set_option maxHeartbeats 2000000 in
theorem slices_ContainsFunc_any (p : Int → Option Bool) (g : Nat) (lb : Array Value) (A0 : Option Addr) (c0 : Nat) (l0 : List Int) (r : Bool) (w : World) (eg : ∀ args W, (callFunc g args).run Try.prog W = .ok (.enter g args) W)
    (hp : ∀ (x : Int) (b : Bool) (W : World), Below w.heap.size w W → p x = some b → Calls Try.prog g (#[.int .i64 x] ++ lb) W fun e w' => e = .returned (.bool b) ∧ Below W.heap.size W w')
    (hr0 : Kd.C (Kd.int .i64) w A0 l0.length l0) (hc0 : l0.length ≤ c0) (h : anyO p l0 = some r) :
    Calls Try.prog 79 #[.slice A0 l0.length c0, .func (.func g) #[] lb] w fun e w' => e = .returned (.bool r) ∧ Below w.heap.size w w' := by
  obtain ⟨i, hi, hd⟩ := idxO_any p l0 0 r h
  subst hd
  have HI := fun W (hW : W = w) => slices_IndexFunc_any p g lb A0 c0 l0 i W eg (hW ▸ hp) (hW ▸ hr0) hc0 hi
  have HC := Aside0.mk HI
  clear HI h hi hp hr0
  go_enter Try.func79, Try.ntmps79
  go_wp2_with (fail)
  refine (HC.out _ rfl).mono ?_
  rintro e w' ⟨rfl, hbb⟩
  have HB2 := Aside0.mk hbb
  clear hbb
  go_wp2
  go_ret
  exact ⟨rfl, HB2.out⟩

/-! ### impl_within: function 59 -/
def impl_within.f (a0 : Int) (a1 : Int) (a2 : Int) : Option (Bool) := if a0 ≥ a1 then (some (decide (a0 ≤ a2))) else (some false)
set_option maxHeartbeats 8000000 in
set_option maxRecDepth 100000 in
theorem impl_within.calls (a0 : Int) (a1 : Int) (a2 : Int) (r : Bool) (w : World) (h : impl_within.f a0 a1 a2 = some r) :
    Calls Try.prog 59 #[.int .i64 a0, .int .i64 a1, .int .i64 a2] w fun e w' => e = .returned (.bool r) ∧ Drawn0 w w' := by
  have H : (if a0 ≥ a1 then (some (decide (a0 ≤ a2))) else (some false)) = some r := h
  clear h
  by_cases c4 : a0 ≥ a1
  · rw [if_pos c4] at H
    have c4b0 : decide (a1 ≤ a0) = true := decide_eq_true c4
    clear c4
    obtain rfl := Option.some.inj H
    go_enter Try.func59, Try.ntmps59
    go_wp2
    go_ret
    exact ⟨by first | rfl | (simp; done) | (simp [*]; done), by repeat (first | exact Drawn0.refl _ | apply Drawn0.step)⟩
  · rw [if_neg c4] at H
    have c4b0 : decide (a1 ≤ a0) = false := decide_eq_false c4
    clear c4
    obtain rfl := Option.some.inj H
    go_enter Try.func59, Try.ntmps59
    go_wp2
    go_ret
    exact ⟨by first | rfl | (simp; done) | (simp [*]; done), by repeat (first | exact Drawn0.refl _ | apply Drawn0.step)⟩

/-! ### impl_areColours_1: function 89 -/
def impl_areColours_1.f (a0 : Int) : Option (Bool) := (impl_within.f a0 0 2).bind fun t124 => (some (!t124))
set_option maxHeartbeats 8000000 in
set_option maxRecDepth 100000 in
theorem impl_areColours_1.calls (a0 : Int) (r : Bool) (w : World) (h : impl_areColours_1.f a0 = some r) :
    Calls Try.prog 89 #[.int .i64 a0] w fun e w' => e = .returned (.bool r) ∧ Drawn0 w w' := by
  have H : ((impl_within.f a0 0 2).bind fun t124 => (some (!t124))) = some r := h
  clear h
  replace H := Option.bind_eq_some_iff.mp H
  obtain ⟨t124, A20, H⟩ := H
  replace H : (some (!t124)) = some r := H
  have A2 := Aside0.mk A20
  clear A20
  obtain rfl := Option.some.inj H
  go_enter Try.func89, Try.ntmps89
  go_wp2_with (first | ((with_reducible refine gate_callee (f := 59) rfl ?_); refine goesL_ (some 4) rfl rfl Try.func59 (by kernel_rfl) rfl #[.int .i64 a0, .int .i64 0, .int .i64 2] rfl (by (try simp only [List.map_toArray, List.map_cons, List.map_nil]); first | done | rfl | (simp only [List.length_drop, List.length_take]; rfl)) ?_; (with_reducible refine (impl_within.calls a0 0 2 t124 _ A2.out).mono ?_); rintro e w' ⟨rfl, ⟨nd, rfl⟩⟩; refine ⟨_, rfl, ?_⟩))
  go_ret
  exact ⟨by first | rfl | (simp; done) | (simp [*]; done), by repeat (first | exact Drawn0.refl _ | apply Drawn0.step)⟩

def slices_ContainsFunc_at_impl_areColours_1.f (l0 : List Int) : Option Bool := anyO impl_areColours_1.f l0
theorem slices_ContainsFunc_at_impl_areColours_1.calls (A0 : Option Addr) (c0 : Nat) (l0 : List Int) (r : Bool) (w : World) (hr0 : Kd.C (Kd.int .i64) w A0 l0.length l0) (hc0 : l0.length ≤ c0) (h : slices_ContainsFunc_at_impl_areColours_1.f l0 = some r) :
    Calls Try.prog 79 #[.slice A0 l0.length c0, .func (.func 89) #[] #[]] w fun e w' => e = .returned (.bool r) ∧ Below w.heap.size w w' :=
  slices_ContainsFunc_any impl_areColours_1.f 89 #[] A0 c0 l0 r w (Go.Proofs.enters_of Try.func89 (by kernel_rfl) rfl)
    (fun x b W _ hx => (impl_areColours_1.calls x b W hx).mono fun _ _ hd => ⟨hd.1, hd.2.below⟩) hr0 hc0 h

/-! ### impl_areColours: function 55 -/
def impl_areColours.f (l0 : List Int) : Option (Bool) := if (l0.length : Int) ≤ 12 then ((slices_ContainsFunc_at_impl_areColours_1.f l0).bind fun t125 => (some (!t125))) else (some false)
set_option maxHeartbeats 8000000 in
set_option maxRecDepth 100000 in
theorem impl_areColours.calls (A0 : Option Addr) (c0 : Nat) (l0 : List Int) (r : Bool) (w : World) (hr0 : Kd.C (Kd.int .i64) w A0 l0.length l0) (hc0 : l0.length ≤ c0) (h : impl_areColours.f l0 = some r) :
    Calls Try.prog 55 #[.slice A0 l0.length c0] w fun e w' => e = .returned (.bool r) ∧ Below w.heap.size w w' := by
  have HR0 := Aside0.mk hr0
  have HC0 := Aside0.mk hc0
  clear hr0 hc0
  have HB := Aside0.mk (Below.refl w.heap.size w)
  have H : (if (l0.length : Int) ≤ 12 then ((slices_ContainsFunc_at_impl_areColours_1.f l0).bind fun t125 => (some (!t125))) else (some false)) = some r := h
  clear h
  by_cases c2 : (l0.length : Int) ≤ 12
  · rw [if_pos c2] at H
    have c2b0 : decide ((l0.length : Int) ≤ 12) = true := decide_eq_true c2
    have c2b1 : decide (l0.length ≤ 12) = true := decide_eq_true (by omega)
    clear c2
    replace H := Option.bind_eq_some_iff.mp H
    obtain ⟨t125, A30, H⟩ := H
    replace H : (some (!t125)) = some r := H
    have A3 := Aside0.mk A30
    clear A30
    obtain rfl := Option.some.inj H
    go_enter Try.func55, Try.ntmps55
    go_wp2_with (first | (go_at_call 79; (with_reducible refine (slices_ContainsFunc_at_impl_areColours_1.calls _ _ l0  t125 _ ?side1 ?side2 A3.out).mono ?_); (case side1 => repeat (first | exact HR0.out | (with_reducible refine Kd.C_alloc ?_ _) | (with_reducible refine Kd.C_drewN ?_ _) | (with_reducible refine Kd.C_drew ?_))); (case side2 => exact HC0.out); rintro e w4 ⟨rfl, hb⟩; have n0_ := Aside0.mk (below_step (by repeat (first | (with_reducible first | exact HB.out | apply below_alloc | apply pw_below_drewN | apply below_drew1) | exact HB.out)) hb); clear HB; have HB := n0_; clear n0_; (try clear hb); (try clear hb2); (try clear hk); (try clear hi)))
    go_ret
    exact ⟨by first | rfl | (simp [errW_none, errW_some] <;> rfl) | (simp [*, errW_none, errW_some] <;> rfl), by repeat (first | (with_reducible first | exact HB.out | apply below_alloc | apply pw_below_drewN | apply below_drew1) | exact HB.out)⟩
  · rw [if_neg c2] at H
    have c2b0 : decide ((l0.length : Int) ≤ 12) = false := decide_eq_false c2
    have c2b1 : decide (l0.length ≤ 12) = false := decide_eq_false (by omega)
    clear c2
    obtain rfl := Option.some.inj H
    go_enter Try.func55, Try.ntmps55
    go_wp2
    go_ret
    exact ⟨by first | rfl | (simp [errW_none, errW_some] <;> rfl) | (simp [*, errW_none, errW_some] <;> rfl), by repeat (first | (with_reducible first | exact HB.out | apply below_alloc | apply pw_below_drewN | apply below_drew1) | exact HB.out)⟩

/-! ### slices_Clone_int_int: function 60 -/
def slices_Clone_int_int.f (l0 : List Int) : Option (List Int) := (some (([] : List Int) : List Int)).bind fun y126 => (if y126.length + l0.length < 17592186044416 then (some (y126 ++ l0)) else (none))
set_option maxHeartbeats 8000000 in
set_option maxRecDepth 100000 in
theorem slices_Clone_int_int.calls (A0 : Option Addr) (c0 : Nat) (l0 : List Int) (r : List Int) (w : World) (hr0 : Kd.C (Kd.int .i64) w A0 l0.length l0) (hc0 : l0.length ≤ c0) (h : slices_Clone_int_int.f l0 = some r) :
    Calls Try.prog 60 #[.slice A0 l0.length c0] w fun e w' => ∃ v0_ : Value, e = .returned (v0_) ∧ Kd.R (Kd.int .i64) 3 w' w.heap.size (fun _ => True) v0_ r ∧ Below w.heap.size w w' := by
  by_cases hA_ : A0 = none
  · subst hA_
    have hl_ : l0 = [] := by
      rcases Nat.eq_zero_or_pos l0.length with h0 | h0
      · exact List.eq_nil_of_length_eq_zero h0
      · obtain ⟨ad_, e_, _⟩ := hr0.2.2 h0
        cases e_
    subst hl_
    have hr_ : r = [] := by
      have h2 := h
      simp only [slices_Clone_int_int.f] at h2
      simpa using h2.symm
    subst hr_
    have hq_ : ∀ W : World, (binOp .eql 22 (.slice none 0 c0) (.slice none 0 0)).run Try.prog W = .ok (.bool true) W := fun W => Lib.run_eql_slice_nil W 22 3 none 0 c0 0 0 Try.underlying22
    clear h
    go_enter Try.func60, Try.ntmps60
    go_wp2
    go_ret
    exact ⟨_, rfl, Kd.R_nil _ _ _ _ _, Below.refl _ _⟩
  have hnn_ : A0.isNone = false := by cases A0 <;> simp_all
  have hq_ : ∀ W : World, (binOp .eql 22 (.slice A0 l0.length c0) (.slice none 0 0)).run Try.prog W = .ok (.bool false) W := fun W => (Lib.run_eql_slice_nil W 22 3 A0 l0.length c0 0 0 Try.underlying22).trans (by rw [hnn_])
  clear hnn_ hA_
  have HR0 := Aside0.mk hr0
  have HC0 := Aside0.mk hc0
  clear hr0 hc0
  have HB := Aside0.mk (Below.refl w.heap.size w)
  have H : ((some (([] : List Int) : List Int)).bind fun y126 => (if y126.length + l0.length < 17592186044416 then (some (y126 ++ l0)) else (none))) = some r := h
  clear h
  obtain ⟨y126, hy126⟩ : ∃ y_ : List Int, y_ = (([] : List Int)) := ⟨_, rfl⟩
  replace H : (if y126.length + l0.length < 17592186044416 then (some (y126 ++ l0)) else (none)) = some r := by first | (rw [hy126]; with_reducible exact H) | (have H2_ := (Option.bind_some _ _).symm.trans H; rw [hy126]; with_reducible exact H2_) | (have H2_ := (Option.bind_some _ _).symm.trans H; with_reducible exact H2_) | with_reducible exact H | (rw [hy126]; exact H) | exact H
  have Ny126 := Aside0.mk hy126
  clear hy126
  by_cases c2 : y126.length + l0.length < 17592186044416
  · rw [if_pos c2] at H
    have LMc2 := Aside0.mk c2
    clear c2
    obtain ⟨y129, hy129⟩ : ∃ y_ : List Int, y_ = (y126 ++ l0) := ⟨_, rfl⟩
    replace H : (some y129) = some r := by first | (rw [hy129]; with_reducible exact H) | (have H2_ := (Option.bind_some _ _).symm.trans H; rw [hy129]; with_reducible exact H2_) | (have H2_ := (Option.bind_some _ _).symm.trans H; with_reducible exact H2_) | with_reducible exact H | (rw [hy129]; exact H) | exact H
    have Ny129 := Aside0.mk hy129
    clear hy129
    obtain rfl := Option.some.inj H
    go_enter Try.func60, Try.ntmps60
    go_wp2_with (first | ((with_reducible refine gate_dst (N := 5) rfl ?_); refine Kd.R_lit (Kd.int .i64) _ 3 ?hg (N := 5) ?hd (xs := ([] : List Int)) (inner := []) (ok := fun _ => True) (okp := fun _ => True) ?hr ?hp (fun _ hk => hk) trivial (Below.refl _ _) (Nat.le_refl _) (by simp) ?_; (case hd => rfl); (case hg => rfl); (case hr => first | (go_simp; done) | (go_simp; rfl)); (case hp => exact (Reps.none _ _)); intro v127 w3 ho4 hb hg_ hnew_; clear hg_ hnew_; (first | rw [← Ny126.out] at ho4 | (simp only [Int.reduceToNat] at ho4; rw [← Ny126.out] at ho4)); have n0_ := Aside0.mk (Kd.R_lower ho4 (below_size (by repeat (first | (with_reducible first | exact HB.out | apply below_alloc | apply pw_below_drewN | apply below_drew1) | exact HB.out)))); have n1_ := Aside0.mk (below_step (by repeat (first | (with_reducible first | exact HB.out | apply below_alloc | apply pw_below_drewN | apply below_drew1) | exact HB.out)) hb); clear HB; have HO128 := n0_; have HB := n1_; clear n0_ n1_; clear hb ho4) | ((with_reducible refine gate_builtin (b := .append) (xs := #[.tmp 5, .tmp 6]) rfl ?_); at_builtin; refine Kd.R_append_rows (Kd.int .i64) (w0 := w) w.heap.size rfl (.tmp 5) (.tmp 6) 22 3 (.int .i64 0) 8 rfl Try.underlying22 info3 rfl (by decide) (by omega) v127 y126 l0 _ _ _ (fun _ => True) (fun _ => False) rfl rfl ?aO ?aR (fun _ _ h => h) (fun _ h => h.elim) ?aF ?aB ?aS ?aL ?_; (case aR => repeat (first | exact (Kd.C_below HR0.out HB.out) | (with_reducible refine Kd.C_alloc ?_ _) | (with_reducible refine Kd.C_drewN ?_ _) | (with_reducible refine Kd.C_drew ?_))); (case aB => exact (by repeat (first | (with_reducible first | exact HB.out | apply below_alloc | apply pw_below_drewN | apply below_drew1) | exact HB.out))); (case aF => exact (fun _ _ => trivial)); (case aO => exact (by (with_reducible repeat (first | apply Kd.R_alloc | apply Kd.R_drewN | apply Kd.R_drew)); exact HO128.out)); (case aS => exact (below_size (by repeat (first | (with_reducible first | exact HB.out | apply below_alloc | apply pw_below_drewN | apply below_drew1) | exact HB.out)))); (case aL => have := LMc2.out; omega); intro v130 w5 ho hb hg hat; rw [← Ny129.out] at ho; have n0_ := Aside0.mk (hb); have n1_ := Aside0.mk (ho); clear HB; clear HO128; have HB := n0_; have HO131 := n1_; clear n0_ n1_; clear ho hb hg hat))
    go_ret
    exact ⟨_, by first | rfl | (simp [errW_none, errW_some] <;> rfl) | (simp [*, errW_none, errW_some] <;> rfl), by (with_reducible repeat (first | apply Kd.R_alloc | apply Kd.R_drewN | apply Kd.R_drew)); exact HO131.out, by repeat (first | (with_reducible first | exact HB.out | apply below_alloc | apply pw_below_drewN | apply below_drew1) | exact HB.out)⟩
  · rw [if_neg c2] at H
    exact absurd H (by simp)

/-! ### impl_shade: function 61 -/
def impl_shade.f (l0 : List Int) (a1 : Int) : Option (List Int) := if a1 ≥ 0 then (if 0 ≤ a1 then (if a1 < (l0.length : Int) then (if (rd l0 a1) = 0 then (some (l0.set (a1 : Int).toNat 1)) else (some l0)) else (none)) else (none)) else (some l0)
set_option maxHeartbeats 8000000 in
set_option maxRecDepth 100000 in
theorem impl_shade.calls (P0_ : Nat → Prop) (u9000_ : Value) (l0 : List Int) (a1 : Int) (r : List Int) (w0 w : World) (hB : Below w0.heap.size w0 w) (ho0 : Kd.R (Kd.int .i64) 3 w w0.heap.size P0_ u9000_ l0) (h : impl_shade.f l0 a1 = some r) :
    Calls Try.prog 61 #[u9000_, .int .i64 a1] w fun e w' => e = .returned (.tuple #[]) ∧ Kd.R (Kd.int .i64) 3 w' w0.heap.size (fun k_ => (P0_ k_ ∨ w.heap.size ≤ k_)) u9000_ r ∧ Below w0.heap.size w0 w' ∧ Kept w w' (fun k_ => P0_ k_) := by
  have HO0 := Aside0.mk (show Kd.R (Kd.int .i64) 3 w w0.heap.size (fun k_ => (P0_ k_ ∨ w.heap.size ≤ k_)) u9000_ l0 from Kd.R_mono ho0 (fun k_ hk => (.inl hk)))
  have HK := Aside0.mk (Kept.refl w (fun k_ => P0_ k_))
  have HW0 := Aside0.mk hB.size
  have HB := Aside0.mk hB
  clear hB
  have H : (if a1 ≥ 0 then (if 0 ≤ a1 then (if a1 < (l0.length : Int) then (if (rd l0 a1) = 0 then (some (l0.set (a1 : Int).toNat 1)) else (some l0)) else (none)) else (none)) else (some l0)) = some r := h
  clear h
  by_cases c3 : a1 ≥ 0
  · rw [if_pos c3] at H
    have c3b0 : decide (0 ≤ a1) = true := decide_eq_true c3
    clear c3
    by_cases c4 : 0 ≤ a1
    · rw [if_pos c4] at H
      have c4b0 : decide (0 ≤ a1) = true := decide_eq_true c4
      clear c4
      by_cases c5 : a1 < (l0.length : Int)
      · rw [if_pos c5] at H
        have c5b0 : decide (a1 < (l0.length : Int)) = true := decide_eq_true c5
        clear c5
        by_cases c6 : (rd l0 a1) = 0
        · rw [if_pos c6] at H
          have c6b0 : ((rd l0 a1) == 0) = true := beq_iff_eq.mpr c6
          have c6b1 : ((rd l0 a1) != 0) = false := bne_eq_false_iff_eq.mpr c6
          clear c6
          obtain ⟨y133, hy133⟩ : ∃ y_ : List Int, y_ = (l0.set (a1 : Int).toNat 1) := ⟨_, rfl⟩
          replace H : (some y133) = some r := by first | (rw [hy133]; with_reducible exact H) | (have H2_ := (Option.bind_some _ _).symm.trans H; rw [hy133]; with_reducible exact H2_) | (have H2_ := (Option.bind_some _ _).symm.trans H; with_reducible exact H2_) | with_reducible exact H | (rw [hy133]; exact H) | exact H
          have Ny133 := Aside0.mk hy133
          clear hy133
          obtain rfl := Option.some.inj H
          obtain ⟨Ao8, co8, eo8⟩ := Kd.R_slice HO0.out
          subst eo8
          have p132 : 0 ≤ (a1 : Int) := of_decide_eq_true (by first | (with_reducible assumption) | assumption)
          have q132 : a1 < (l0.length : Int) := of_decide_eq_true (by first | (with_reducible assumption) | assumption)
          obtain ⟨ad132, e132, hx132_0⟩ := Kd.at_int (Kd.R_reads' HO0.out).2.2 a1 p132 q132
          cases e132
          replace p132 := eq_true p132
          replace q132 := eq_true q132
          have p7 : 0 ≤ (a1 : Int) := of_decide_eq_true (by first | (with_reducible assumption) | assumption)
          have q7 : (a1 : Int) < ((l0.length : Int) : Int) := of_decide_eq_true (by first | (with_reducible assumption) | assumption)
          obtain ⟨go7, co7, eo7, gb7, gl7, cl7, HG7⟩ := Kd.R_form HO0.out (by omega)
          (first | cases eo7 | (injection eo7 with ea_ en_ ec_; (first | subst ea_ | (injection ea_ with ea_; subst ea_)); subst ec_; clear en_))
          have GB7 := Aside0.mk gb7
          have GG7 := Aside0.mk HG7
          clear gb7 gl7 HG7
          have HMgo7 := Aside0.mk (show (P0_ go7 ∨ w.heap.size ≤ go7) from (HO0.out.1 _ rfl))
          (first | simp only [add_plain] at hx132_0 | skip)
          obtain ⟨hx7_0, hf7_0⟩ := Kd.R_celln 0 HO0.out (a1 : Int) p7 q7
          replace p7 := eq_true p7
          replace q7 := eq_true q7
          have HP9 := Kd.R_putg HO0.out (a1 : Int) 1
          go_enter Try.func61, Try.ntmps61
          go_wp2_with (first | ((with_reducible refine gate_store (t := 3) (p := 15) rfl ?_); refine store_event (t := 3) (p := 15) (v := ?vo_w10) (w1 := (w.setCell ⟨go7, (a1 : Int).toNat, none⟩ (.int .i64 1))) ?hg ?ho ?hn ?hr ?_; (case ho => rfl); (case hg => rfl); (case hn => rfl); (case hr => first | (go_simp; done) | (go_simp; rfl)); intro w10 hw; have hg : w.grownBy w10 (some go7) := (by rw [hw]; exact HP9.2); have hp_ : Kd.R (Kd.int .i64) 3 w10 w0.heap.size (fun k_ => (P0_ k_ ∨ w.heap.size ≤ k_)) (.slice (some ⟨go7, 0, none⟩) l0.length co8) y133 := (by rw [hw, Ny133.out]; exact HP9.1); clear HP9; have n0_ := Aside0.mk (hp_); have n1_ := Aside0.mk ((by rw [hw]; exact below_set (HB.out) GB7.out : Below w0.heap.size w0 w10)); have n2_ := Aside0.mk (Kept.of_grown (S := (fun k_ => P0_ k_)) hg (by repeat (first | (with_reducible first | exact HK.out | apply Kept.alloc | apply Kept.drewN | apply Kept.drew) | exact HK.out)) (fun k_ e_ => (HO0.out.1 k_ e_))); clear HO0; clear HB; clear HK; have HO0 := n0_; have HB := n1_; have HK := n2_; clear n0_ n1_ n2_; clear hg hw hp_))
          first | go_end0 | ((try simp only [Exit.inBlock, Exit.then]); refine bodyPost_ret (results_none rfl _ _ _) rfl ?_)
          exact ⟨by first | rfl | (simp [errW_none, errW_some] <;> rfl) | (simp [*, errW_none, errW_some] <;> rfl), by (with_reducible repeat (first | apply Kd.R_alloc | apply Kd.R_drewN | apply Kd.R_drew)); exact HO0.out, by repeat (first | (with_reducible first | exact HB.out | apply below_alloc | apply pw_below_drewN | apply below_drew1) | exact HB.out), by repeat (first | (with_reducible first | exact HK.out | apply Kept.alloc | apply Kept.drewN | apply Kept.drew) | exact HK.out)⟩
        · rw [if_neg c6] at H
          have c6b0 : ((rd l0 a1) == 0) = false := beq_eq_false_iff_ne.mpr c6
          have c6b1 : ((rd l0 a1) != 0) = true := bne_iff_ne.mpr c6
          obtain rfl := Option.some.inj H
          obtain ⟨Ao11, co11, eo11⟩ := Kd.R_slice HO0.out
          subst eo11
          have p132 : 0 ≤ (a1 : Int) := of_decide_eq_true (by first | (with_reducible assumption) | assumption)
          have q132 : a1 < (l0.length : Int) := of_decide_eq_true (by first | (with_reducible assumption) | assumption)
          obtain ⟨ad132, e132, hx132_0⟩ := Kd.at_int (Kd.R_reads' HO0.out).2.2 a1 p132 q132
          cases e132
          replace p132 := eq_true p132
          replace q132 := eq_true q132
          go_enter Try.func61, Try.ntmps61
          go_wp2
          first | go_end0 | ((try simp only [Exit.inBlock, Exit.then]); refine bodyPost_ret (results_none rfl _ _ _) rfl ?_)
          exact ⟨by first | rfl | (simp [errW_none, errW_some] <;> rfl) | (simp [*, errW_none, errW_some] <;> rfl), by (with_reducible repeat (first | apply Kd.R_alloc | apply Kd.R_drewN | apply Kd.R_drew)); exact HO0.out, by repeat (first | (with_reducible first | exact HB.out | apply below_alloc | apply pw_below_drewN | apply below_drew1) | exact HB.out), by repeat (first | (with_reducible first | exact HK.out | apply Kept.alloc | apply Kept.drewN | apply Kept.drew) | exact HK.out)⟩
      · rw [if_neg c5] at H
        exact absurd H (by simp)
    · rw [if_neg c4] at H
      exact absurd H (by simp)
  · rw [if_neg c3] at H
    have c3b0 : decide (0 ≤ a1) = false := decide_eq_false c3
    clear c3
    obtain rfl := Option.some.inj H
    go_enter Try.func61, Try.ntmps61
    go_wp2
    first | go_end0 | ((try simp only [Exit.inBlock, Exit.then]); refine bodyPost_ret (results_none rfl _ _ _) rfl ?_)
    exact ⟨by first | rfl | (simp [errW_none, errW_some] <;> rfl) | (simp [*, errW_none, errW_some] <;> rfl), by (with_reducible repeat (first | apply Kd.R_alloc | apply Kd.R_drewN | apply Kd.R_drew)); exact HO0.out, by repeat (first | (with_reducible first | exact HB.out | apply below_alloc | apply pw_below_drewN | apply below_drew1) | exact HB.out), by repeat (first | (with_reducible first | exact HK.out | apply Kept.alloc | apply Kept.drewN | apply Kept.drew) | exact HK.out)⟩

/-! ### impl_ShadeThing: function 24 -/
def impl_ShadeThing.j0 : Nat → List Int → Int → Bool → Option (List Int × Bool)
  | 0, _, _, _ => none
  | k + 1, x0, x1, x17 => if x17 = true then (some (([] : List Int), false)) else ((slices_Clone_int_int.f x0).bind fun t136 => ((impl_shade.f t136 x1).bind fun t139 => (some (t139, true))))
def impl_ShadeThing.f (k : Nat) (l0 : List Int) (a1 : Int) : Option (List Int × Bool) := (impl_areColours.f l0).bind fun t134 => (if t134 = true then ((impl_within.f a1 0 (wrap64 ((l0.length : Int) - 1))).bind fun t135 => (impl_ShadeThing.j0 k l0 a1 (!t135))) else (impl_ShadeThing.j0 k l0 a1 true))
theorem impl_ShadeThing.mono_l : ∀ k, (∀ y0 y1 y2, LeO (impl_ShadeThing.j0 k y0 y1 y2) (impl_ShadeThing.j0 (k + 1) y0 y1 y2))
  | 0 => fun _ _ _ r h => by simp [impl_ShadeThing.j0] at h
  | k + 1 => by
    have ih0 := impl_ShadeThing.mono_l k
    · intro y0 y1 y2
      unfold impl_ShadeThing.j0
      repeat' first
      | (with_reducible exact ih0 _ _ _)
      | (with_reducible exact LeO.refl _)
      | (with_reducible exact LeO.none _)
      | (with_reducible refine LeO.ite ?_ ?_)
      | (with_reducible refine LeO.bind ?_ (fun _ => ?_))
      | exact ih0 _ _ _
      | exact LeO.none _
      | refine LeO.ite ?_ ?_
      | refine LeO.bind ?_ (fun _ => ?_)
theorem impl_ShadeThing.mono : ∀ a0 a1 k, LeO (impl_ShadeThing.f k a0 a1) (impl_ShadeThing.f (k + 1) a0 a1) := by
  intro a0 a1 k
  have ih0 := impl_ShadeThing.mono_l k
  unfold impl_ShadeThing.f
  repeat' first
      | (with_reducible exact ih0 _ _ _)
      | (with_reducible exact LeO.refl _)
      | (with_reducible exact LeO.none _)
      | (with_reducible refine LeO.ite ?_ ?_)
      | (with_reducible refine LeO.bind ?_ (fun _ => ?_))
      | exact ih0 _ _ _
      | exact LeO.none _
      | refine LeO.ite ?_ ?_
      | refine LeO.bind ?_ (fun _ => ?_)
set_option maxHeartbeats 8000000 in
set_option maxRecDepth 100000 in
theorem impl_ShadeThing.calls (k : Nat) (A0 : Option Addr) (c0 : Nat) (l0 : List Int) (a1 : Int) (r1 : List Int) (r2 : Bool) (w : World) (hr0 : Kd.C (Kd.int .i64) w A0 l0.length l0) (hc0 : l0.length ≤ c0) (h : impl_ShadeThing.f k l0 a1 = some (r1, r2)) :
    Calls Try.prog 24 #[.slice A0 l0.length c0, .int .i64 a1] w fun e w' => ∃ v0_ : Value, e = .returned (.tuple #[v0_, .bool r2]) ∧ Kd.R (Kd.int .i64) 3 w' w.heap.size (fun _ => True) v0_ r1 ∧ Below w.heap.size w w' := by
  have HR0 := Aside0.mk hr0
  have HC0 := Aside0.mk hc0
  clear hr0 hc0
  have HB := Aside0.mk (Below.refl w.heap.size w)
  have H : ((impl_areColours.f l0).bind fun t134 => (if t134 = true then ((impl_within.f a1 0 (wrap64 ((l0.length : Int) - 1))).bind fun t135 => (impl_ShadeThing.j0 k l0 a1 (!t135))) else (impl_ShadeThing.j0 k l0 a1 true))) = some (r1, r2) := h
  clear h
  have HC3 := Aside0.mk H
  clear H
  go_enter Try.func24, Try.ntmps24
  go_upto_region 1 with (fail)
  go_cut [17] (fun v17 wc => ∃ (kq : Nat) (x17_2 : Bool), v17 = .bool x17_2 ∧ Aside0 (impl_ShadeThing.j0 kq l0 a1 x17_2 = some (r1, r2)) ∧ Aside0 (kq ≤ k) ∧ Aside0 (Below w.heap.size w wc))
  case first =>
    have H := HC3.out
    clear HC3
    replace H := Option.bind_eq_some_iff.mp H
    obtain ⟨t134, A40, H⟩ := H
    replace H : (if t134 = true then ((impl_within.f a1 0 (wrap64 ((l0.length : Int) - 1))).bind fun t135 => (impl_ShadeThing.j0 k l0 a1 (!t135))) else (impl_ShadeThing.j0 k l0 a1 true)) = some (r1, r2) := H
    have A4 := Aside0.mk A40
    clear A40
    by_cases c5 : t134 = true
    · subst c5
      have H1 : ((impl_within.f a1 0 (wrap64 ((l0.length : Int) - 1))).bind fun t135 => (impl_ShadeThing.j0 k l0 a1 (!t135))) = some (r1, r2) := by rw [if_pos rfl] at H; exact H
      clear H
      have H := H1
      clear H1
      replace H := Option.bind_eq_some_iff.mp H
      obtain ⟨t135, A60, H⟩ := H
      replace H : (impl_ShadeThing.j0 k l0 a1 (!t135)) = some (r1, r2) := H
      have A6 := Aside0.mk A60
      clear A60
      have H' := Aside0.mk H
      clear H
      go_wp2_with (first | ((with_reducible refine gate_callee (f := 55) rfl ?_); refine goesL_ (some 8) rfl rfl Try.func55 (by kernel_rfl) rfl #[.slice A0 l0.length c0] rfl (by (try simp only [List.map_toArray, List.map_cons, List.map_nil]); first | done | rfl | (simp only [List.length_drop, List.length_take]; rfl)) ?_; (with_reducible refine (impl_areColours.calls _ _ l0 true _ ?side1 ?side2 A4.out).mono ?_); (case side1 => repeat (first | exact (Kd.C_below HR0.out HB.out) | (with_reducible refine Kd.C_alloc ?_ _) | (with_reducible refine Kd.C_drewN ?_ _) | (with_reducible refine Kd.C_drew ?_))); (case side2 => exact HC0.out); rintro e w7 ⟨rfl, hb⟩; refine ⟨_, rfl, ?_⟩; have n0_ := Aside0.mk (below_step (by repeat (first | (with_reducible first | exact HB.out | apply below_alloc | apply pw_below_drewN | apply below_drew1) | exact HB.out)) hb); clear HB; have HB := n0_; clear n0_; (try clear hb); (try clear hb2); (try clear hk); (try clear hi)) | (go_at_call 59; (with_reducible refine (impl_within.calls a1 0 (wrap64 ((l0.length : Int) - 1)) t135 _ A6.out).mono ?_); rintro e w' ⟨rfl, ⟨nd, rfl⟩⟩))
      go_meet
      case rel => exact ⟨_, (!t135), (by first | rfl | (simp; done) | (simp [*]; done)), H', ⟨by first | omega | exact Nat.le_refl _⟩, ⟨by repeat (first | (with_reducible first | exact HB.out | apply below_alloc | apply pw_below_drewN | apply below_drew1) | exact HB.out)⟩⟩
    · replace c5 := Bool.eq_false_iff.mpr c5
      subst c5
      have H1 : (impl_ShadeThing.j0 k l0 a1 true) = some (r1, r2) := by rw [if_neg (show ¬ (false = true) by decide)] at H; exact H
      clear H
      have H := H1
      clear H1
      have H' := Aside0.mk H
      clear H
      go_wp2_with (first | ((with_reducible refine gate_callee (f := 55) rfl ?_); refine goesL_ (some 8) rfl rfl Try.func55 (by kernel_rfl) rfl #[.slice A0 l0.length c0] rfl (by (try simp only [List.map_toArray, List.map_cons, List.map_nil]); first | done | rfl | (simp only [List.length_drop, List.length_take]; rfl)) ?_; (with_reducible refine (impl_areColours.calls _ _ l0 false _ ?side1 ?side2 A4.out).mono ?_); (case side1 => repeat (first | exact (Kd.C_below HR0.out HB.out) | (with_reducible refine Kd.C_alloc ?_ _) | (with_reducible refine Kd.C_drewN ?_ _) | (with_reducible refine Kd.C_drew ?_))); (case side2 => exact HC0.out); rintro e w8 ⟨rfl, hb⟩; refine ⟨_, rfl, ?_⟩; have n0_ := Aside0.mk (below_step (by repeat (first | (with_reducible first | exact HB.out | apply below_alloc | apply pw_below_drewN | apply below_drew1) | exact HB.out)) hb); clear HB; have HB := n0_; clear n0_; (try clear hb); (try clear hb2); (try clear hk); (try clear hi)))
      go_meet
      case rel => exact ⟨_, (true), (by first | rfl | (simp; done) | (simp [*]; done)), H', ⟨by first | omega | exact Nat.le_refl _⟩, ⟨by repeat (first | (with_reducible first | exact HB.out | apply below_alloc | apply pw_below_drewN | apply below_drew1) | exact HB.out)⟩⟩
  case rest =>
    clear HC3
    try clear c2
    try clear p2
    try clear c5
    try clear p6
    obtain ⟨kq, x17_2, rfl, HA, HJ2, HB⟩ := hcut
    cases kq with
    | zero => exact absurd HA.out (by simp [impl_ShadeThing.j0])
    | succ kj2 =>
      have H := HA.out
      clear HA
      simp only [impl_ShadeThing.j0] at H
      by_cases c9 : x17_2 = true
      · subst c9
        have H1 : (some (([] : List Int), false)) = some (r1, r2) := by rw [if_pos rfl] at H; exact H
        clear H
        have H := H1
        clear H1
        simp only [Option.some.injEq, Prod.mk.injEq] at H
        obtain ⟨rfl, rfl⟩ := H
        go_wp2
        go_ret2
        exact ⟨_, by first | rfl | (simp [errW_none, errW_some] <;> rfl) | (simp [*, errW_none, errW_some] <;> rfl), by first | exact Kd.R_nil _ _ _ _ _ | exact Kd.N_nil _ _ _ _ _ | exact Kd.V_nil _ _ _ _ _ | exact Kd.Q_nil _ _ _ _ _ | exact Kd.S_nil _ _ _ _ _, by repeat (first | (with_reducible first | exact HB.out | apply below_alloc | apply pw_below_drewN | apply below_drew1) | exact HB.out)⟩
      · replace c9 := Bool.eq_false_iff.mpr c9
        subst c9
        have H1 : ((slices_Clone_int_int.f l0).bind fun t136 => ((impl_shade.f t136 a1).bind fun t139 => (some (t139, true)))) = some (r1, r2) := by rw [if_neg (show ¬ (false = true) by decide)] at H; exact H
        clear H
        have H := H1
        clear H1
        replace H := Option.bind_eq_some_iff.mp H
        obtain ⟨t136, A100, H⟩ := H
        replace H : ((impl_shade.f t136 a1).bind fun t139 => (some (t139, true))) = some (r1, r2) := H
        have A10 := Aside0.mk A100
        clear A100
        replace H := Option.bind_eq_some_iff.mp H
        obtain ⟨t139, A110, H⟩ := H
        replace H : (some (t139, true)) = some (r1, r2) := H
        have A11 := Aside0.mk A110
        clear A110
        simp only [Option.some.injEq, Prod.mk.injEq] at H
        obtain ⟨rfl, rfl⟩ := H
        go_wp2_with (first | ((with_reducible refine gate_callee (f := 60) rfl ?_); refine goesL_ (some 19) rfl rfl Try.func60 (by kernel_rfl) rfl #[.slice A0 l0.length c0] rfl (by (try simp only [List.map_toArray, List.map_cons, List.map_nil]); first | done | rfl | (simp only [List.length_drop, List.length_take]; rfl)) ?_; (with_reducible refine (slices_Clone_int_int.calls _ _ l0 t136 _ ?side1 ?side2 A10.out).mono ?_); (case side1 => repeat (first | exact (Kd.C_below HR0.out HB.out) | (with_reducible refine Kd.C_alloc ?_ _) | (with_reducible refine Kd.C_drewN ?_ _) | (with_reducible refine Kd.C_drew ?_))); (case side2 => exact HC0.out); rintro e w12 ⟨v137, rfl, ho0, hb⟩; refine ⟨_, rfl, ?_⟩; have n0_ := Aside0.mk (Kd.R_lower ho0 (below_size (by repeat (first | (with_reducible first | exact HB.out | apply below_alloc | apply pw_below_drewN | apply below_drew1) | exact HB.out)))); have n1_ := Aside0.mk (below_step (by repeat (first | (with_reducible first | exact HB.out | apply below_alloc | apply pw_below_drewN | apply below_drew1) | exact HB.out)) hb); clear HB; have HO138 := n0_; have HB := n1_; clear n0_ n1_; (try clear hb); (try clear hb2); (try clear hk); (try clear hi); (try clear ho0); obtain ⟨Ao13, co13, eo13⟩ := Kd.R_slice HO138.out; subst eo13) | ((with_reducible refine gate_callee (f := 61) rfl ?_); refine goesL_ (some 22) rfl rfl Try.func61 (by kernel_rfl) rfl #[.slice Ao13 t136.length co13, .int .i64 a1] rfl (by (try simp only [List.map_toArray, List.map_cons, List.map_nil]); first | done | rfl | (simp only [List.length_drop, List.length_take]; rfl)) ?_; (with_reducible refine (impl_shade.calls (fun k_ => some k_ = (.slice Ao13 t136.length co13 : Value).ownBlock) (.slice Ao13 t136.length co13) t136 a1 t139 w _ ?side1 ?side2 A11.out).mono ?_); (case side1 => repeat (first | (with_reducible first | exact HB.out | apply below_alloc | apply pw_below_drewN | apply below_drew1) | exact HB.out)); (case side2 => exact Kd.R_tight rfl HO138.out); rintro e w14 ⟨rfl, hy0, hb, hkp⟩; refine ⟨_, rfl, ?_⟩; have n0_ := Aside0.mk (Kd.R_reok rfl hy0 (fun k_ e_ => HO138.out.1 k_ e_)); have n1_ := Aside0.mk (hb); clear HO138; clear HB; have HO138 := n0_; have HB := n1_; clear n0_ n1_; (try clear hb); (try clear hkp); (try clear hy0)))
        go_ret2
        exact ⟨_, by first | rfl | (simp [errW_none, errW_some] <;> rfl) | (simp [*, errW_none, errW_some] <;> rfl), by (with_reducible repeat (first | apply Kd.R_alloc | apply Kd.R_drewN | apply Kd.R_drew)); exact HO138.out, by repeat (first | (with_reducible first | exact HB.out | apply below_alloc | apply pw_below_drewN | apply below_drew1) | exact HB.out)⟩

/-! ### laws_FnExactShadeThing: function 5 -/
def laws_FnExactShadeThing.f (k : Nat) (l0 : List Int) (a1 : Int) : Option (Bool) := if (l0.length : Int) > 1048576 then (some true) else ((laws_toIntS.f k l0).bind fun t140 => ((spec_ShadeThing.f k t140 a1).bind fun bt143 => ((laws_toIntS.f k l0).bind fun t147 => ((impl_ShadeThing.f k t147 a1).bind fun bt150 => ((laws_eqIntS.f k bt150.1 bt143.1).bind fun t154 => (if t154 = true then (if (bt150.2 != bt143.2) = true then (some false) else ((laws_toIntS.f k l0).bind fun t155 => ((laws_eqIntS.f k t147 t155).bind fun t158 => (if t158 = true then ((laws_markIntS.f k t147 1).bind fun bt159 => (if bt159.1 < 0 then (some false) else ((laws_eqIntS.f k bt150.1 bt143.1).bind fun t161 => (if t161 = true then ((laws_markIntS.f k bt150.1 1).bind fun bt162 => ((laws_heldIntS.f k bt162.2 1).bind fun t164 => (if t164 < 0 then (some false) else (if t164 = bt162.1 then ((laws_toIntS.f k l0).bind fun t165 => ((impl_ShadeThing.f k t165 a1).bind fun bt168 => ((laws_eqIntS.f k bt168.1 bt143.1).bind fun t172 => (if t172 = true then (if (bt168.2 != bt143.2) = true then (some false) else ((laws_heldIntS.f k bt162.2 1).bind fun t173 => (if t173 < 0 then (some false) else (if t173 = bt162.1 then (some true) else (some false))))) else (some false))))) else (some false))))) else (some false))))) else (some false))))) else (some false)))))))
theorem laws_FnExactShadeThing.mono : ∀ a0 a1 k, LeO (laws_FnExactShadeThing.f k a0 a1) (laws_FnExactShadeThing.f (k + 1) a0 a1) := by
  intro a0 a1 k
  unfold laws_FnExactShadeThing.f
  repeat' first
      | (with_reducible exact impl_ShadeThing.mono _ _ _)
      | (with_reducible exact laws_eqIntS.mono _ _ _)
      | (with_reducible exact laws_heldIntS.mono _ _ _)
      | (with_reducible exact laws_markIntS.mono _ _ _)
      | (with_reducible exact laws_toIntS.mono _ _)
      | (with_reducible exact spec_ShadeThing.mono _ _ _)
      | (with_reducible exact LeO.refl _)
      | (with_reducible exact LeO.none _)
      | (with_reducible refine LeO.ite ?_ ?_)
      | (with_reducible refine LeO.bind ?_ (fun _ => ?_))
      | exact impl_ShadeThing.mono _ _ _
      | exact laws_eqIntS.mono _ _ _
      | exact laws_heldIntS.mono _ _ _
      | exact laws_markIntS.mono _ _ _
      | exact laws_toIntS.mono _ _
      | exact spec_ShadeThing.mono _ _ _
      | exact LeO.none _
      | refine LeO.ite ?_ ?_
      | refine LeO.bind ?_ (fun _ => ?_)
set_option maxHeartbeats 8000000 in
set_option maxRecDepth 100000 in
theorem laws_FnExactShadeThing.calls (k : Nat) (A0 : Option Addr) (c0 : Nat) (l0 : List Int) (a1 : Int) (r : Bool) (w : World) (hr0 : Kd.C (Kd.int .i64) w A0 l0.length l0) (hc0 : l0.length ≤ c0) (h : laws_FnExactShadeThing.f k l0 a1 = some r) (ht_ : Aside0 (r = true)) :
    Calls Try.prog 5 #[.slice A0 l0.length c0, .int .i64 a1] w fun e w' => e = .returned (.bool r) ∧ Below w.heap.size w w' := by
  have HR0 := Aside0.mk hr0
  have HC0 := Aside0.mk hc0
  clear hr0 hc0
  have HB := Aside0.mk (Below.refl w.heap.size w)
  have H : (if (l0.length : Int) > 1048576 then (some true) else ((laws_toIntS.f k l0).bind fun t140 => ((spec_ShadeThing.f k t140 a1).bind fun bt143 => ((laws_toIntS.f k l0).bind fun t147 => ((impl_ShadeThing.f k t147 a1).bind fun bt150 => ((laws_eqIntS.f k bt150.1 bt143.1).bind fun t154 => (if t154 = true then (if (bt150.2 != bt143.2) = true then (some false) else ((laws_toIntS.f k l0).bind fun t155 => ((laws_eqIntS.f k t147 t155).bind fun t158 => (if t158 = true then ((laws_markIntS.f k t147 1).bind fun bt159 => (if bt159.1 < 0 then (some false) else ((laws_eqIntS.f k bt150.1 bt143.1).bind fun t161 => (if t161 = true then ((laws_markIntS.f k bt150.1 1).bind fun bt162 => ((laws_heldIntS.f k bt162.2 1).bind fun t164 => (if t164 < 0 then (some false) else (if t164 = bt162.1 then ((laws_toIntS.f k l0).bind fun t165 => ((impl_ShadeThing.f k t165 a1).bind fun bt168 => ((laws_eqIntS.f k bt168.1 bt143.1).bind fun t172 => (if t172 = true then (if (bt168.2 != bt143.2) = true then (some false) else ((laws_heldIntS.f k bt162.2 1).bind fun t173 => (if t173 < 0 then (some false) else (if t173 = bt162.1 then (some true) else (some false))))) else (some false))))) else (some false))))) else (some false))))) else (some false))))) else (some false)))))))) = some r := h
  clear h
  by_cases c3 : (l0.length : Int) > 1048576
  · rw [if_pos c3] at H
    have c3b0 : decide (1048576 < (l0.length : Int)) = true := decide_eq_true c3
    have c3b1 : decide (1048576 < l0.length) = true := decide_eq_true (by omega)
    clear c3
    obtain rfl := Option.some.inj H
    go_enter Try.func5, Try.ntmps5
    go_wp2
    go_ret
    exact ⟨by first | rfl | (simp [errW_none, errW_some] <;> rfl) | (simp [*, errW_none, errW_some] <;> rfl), by repeat (first | (with_reducible first | exact HB.out | apply below_alloc | apply pw_below_drewN | apply below_drew1) | exact HB.out)⟩
  · rw [if_neg c3] at H
    have c3b0 : decide (1048576 < (l0.length : Int)) = false := decide_eq_false c3
    have c3b1 : decide (1048576 < l0.length) = false := decide_eq_false (by omega)
    clear c3
    replace H := Option.bind_eq_some_iff.mp H
    obtain ⟨t140, A40, H⟩ := H
    replace H : ((spec_ShadeThing.f k t140 a1).bind fun bt143 => ((laws_toIntS.f k l0).bind fun t147 => ((impl_ShadeThing.f k t147 a1).bind fun bt150 => ((laws_eqIntS.f k bt150.1 bt143.1).bind fun t154 => (if t154 = true then (if (bt150.2 != bt143.2) = true then (some false) else ((laws_toIntS.f k l0).bind fun t155 => ((laws_eqIntS.f k t147 t155).bind fun t158 => (if t158 = true then ((laws_markIntS.f k t147 1).bind fun bt159 => (if bt159.1 < 0 then (some false) else ((laws_eqIntS.f k bt150.1 bt143.1).bind fun t161 => (if t161 = true then ((laws_markIntS.f k bt150.1 1).bind fun bt162 => ((laws_heldIntS.f k bt162.2 1).bind fun t164 => (if t164 < 0 then (some false) else (if t164 = bt162.1 then ((laws_toIntS.f k l0).bind fun t165 => ((impl_ShadeThing.f k t165 a1).bind fun bt168 => ((laws_eqIntS.f k bt168.1 bt143.1).bind fun t172 => (if t172 = true then (if (bt168.2 != bt143.2) = true then (some false) else ((laws_heldIntS.f k bt162.2 1).bind fun t173 => (if t173 < 0 then (some false) else (if t173 = bt162.1 then (some true) else (some false))))) else (some false))))) else (some false))))) else (some false))))) else (some false))))) else (some false)))))) = some r := H
    have A4 := Aside0.mk A40
    clear A40
    replace H := Option.bind_eq_some_iff.mp H
    obtain ⟨⟨t143, t144⟩, A50, H⟩ := H
    replace H : ((laws_toIntS.f k l0).bind fun t147 => ((impl_ShadeThing.f k t147 a1).bind fun bt150 => ((laws_eqIntS.f k bt150.1 t143).bind fun t154 => (if t154 = true then (if (bt150.2 != t144) = true then (some false) else ((laws_toIntS.f k l0).bind fun t155 => ((laws_eqIntS.f k t147 t155).bind fun t158 => (if t158 = true then ((laws_markIntS.f k t147 1).bind fun bt159 => (if bt159.1 < 0 then (some false) else ((laws_eqIntS.f k bt150.1 t143).bind fun t161 => (if t161 = true then ((laws_markIntS.f k bt150.1 1).bind fun bt162 => ((laws_heldIntS.f k bt162.2 1).bind fun t164 => (if t164 < 0 then (some false) else (if t164 = bt162.1 then ((laws_toIntS.f k l0).bind fun t165 => ((impl_ShadeThing.f k t165 a1).bind fun bt168 => ((laws_eqIntS.f k bt168.1 t143).bind fun t172 => (if t172 = true then (if (bt168.2 != t144) = true then (some false) else ((laws_heldIntS.f k bt162.2 1).bind fun t173 => (if t173 < 0 then (some false) else (if t173 = bt162.1 then (some true) else (some false))))) else (some false))))) else (some false))))) else (some false))))) else (some false))))) else (some false))))) = some r := H
    have A5 := Aside0.mk A50
    clear A50
    replace H := Option.bind_eq_some_iff.mp H
    obtain ⟨t147, A60, H⟩ := H
    replace H : ((impl_ShadeThing.f k t147 a1).bind fun bt150 => ((laws_eqIntS.f k bt150.1 t143).bind fun t154 => (if t154 = true then (if (bt150.2 != t144) = true then (some false) else ((laws_toIntS.f k l0).bind fun t155 => ((laws_eqIntS.f k t147 t155).bind fun t158 => (if t158 = true then ((laws_markIntS.f k t147 1).bind fun bt159 => (if bt159.1 < 0 then (some false) else ((laws_eqIntS.f k bt150.1 t143).bind fun t161 => (if t161 = true then ((laws_markIntS.f k bt150.1 1).bind fun bt162 => ((laws_heldIntS.f k bt162.2 1).bind fun t164 => (if t164 < 0 then (some false) else (if t164 = bt162.1 then ((laws_toIntS.f k l0).bind fun t165 => ((impl_ShadeThing.f k t165 a1).bind fun bt168 => ((laws_eqIntS.f k bt168.1 t143).bind fun t172 => (if t172 = true then (if (bt168.2 != t144) = true then (some false) else ((laws_heldIntS.f k bt162.2 1).bind fun t173 => (if t173 < 0 then (some false) else (if t173 = bt162.1 then (some true) else (some false))))) else (some false))))) else (some false))))) else (some false))))) else (some false))))) else (some false)))) = some r := H
    have A6 := Aside0.mk A60
    clear A60
    replace H := Option.bind_eq_some_iff.mp H
    obtain ⟨⟨t150, t151⟩, A70, H⟩ := H
    replace H : ((laws_eqIntS.f k t150 t143).bind fun t154 => (if t154 = true then (if (t151 != t144) = true then (some false) else ((laws_toIntS.f k l0).bind fun t155 => ((laws_eqIntS.f k t147 t155).bind fun t158 => (if t158 = true then ((laws_markIntS.f k t147 1).bind fun bt159 => (if bt159.1 < 0 then (some false) else ((laws_eqIntS.f k t150 t143).bind fun t161 => (if t161 = true then ((laws_markIntS.f k t150 1).bind fun bt162 => ((laws_heldIntS.f k bt162.2 1).bind fun t164 => (if t164 < 0 then (some false) else (if t164 = bt162.1 then ((laws_toIntS.f k l0).bind fun t165 => ((impl_ShadeThing.f k t165 a1).bind fun bt168 => ((laws_eqIntS.f k bt168.1 t143).bind fun t172 => (if t172 = true then (if (bt168.2 != t144) = true then (some false) else ((laws_heldIntS.f k bt162.2 1).bind fun t173 => (if t173 < 0 then (some false) else (if t173 = bt162.1 then (some true) else (some false))))) else (some false))))) else (some false))))) else (some false))))) else (some false))))) else (some false))) = some r := H
    have A7 := Aside0.mk A70
    clear A70
    replace H := Option.bind_eq_some_iff.mp H
    obtain ⟨t154, A80, H⟩ := H
    replace H : (if t154 = true then (if (t151 != t144) = true then (some false) else ((laws_toIntS.f k l0).bind fun t155 => ((laws_eqIntS.f k t147 t155).bind fun t158 => (if t158 = true then ((laws_markIntS.f k t147 1).bind fun bt159 => (if bt159.1 < 0 then (some false) else ((laws_eqIntS.f k t150 t143).bind fun t161 => (if t161 = true then ((laws_markIntS.f k t150 1).bind fun bt162 => ((laws_heldIntS.f k bt162.2 1).bind fun t164 => (if t164 < 0 then (some false) else (if t164 = bt162.1 then ((laws_toIntS.f k l0).bind fun t165 => ((impl_ShadeThing.f k t165 a1).bind fun bt168 => ((laws_eqIntS.f k bt168.1 t143).bind fun t172 => (if t172 = true then (if (bt168.2 != t144) = true then (some false) else ((laws_heldIntS.f k bt162.2 1).bind fun t173 => (if t173 < 0 then (some false) else (if t173 = bt162.1 then (some true) else (some false))))) else (some false))))) else (some false))))) else (some false))))) else (some false))))) else (some false)) = some r := H
    have A8 := Aside0.mk A80
    clear A80
    by_cases c9 : t154 = true
    · subst c9
      have H1 : (if (t151 != t144) = true then (some false) else ((laws_toIntS.f k l0).bind fun t155 => ((laws_eqIntS.f k t147 t155).bind fun t158 => (if t158 = true then ((laws_markIntS.f k t147 1).bind fun bt159 => (if bt159.1 < 0 then (some false) else ((laws_eqIntS.f k t150 t143).bind fun t161 => (if t161 = true then ((laws_markIntS.f k t150 1).bind fun bt162 => ((laws_heldIntS.f k bt162.2 1).bind fun t164 => (if t164 < 0 then (some false) else (if t164 = bt162.1 then ((laws_toIntS.f k l0).bind fun t165 => ((impl_ShadeThing.f k t165 a1).bind fun bt168 => ((laws_eqIntS.f k bt168.1 t143).bind fun t172 => (if t172 = true then (if (bt168.2 != t144) = true then (some false) else ((laws_heldIntS.f k bt162.2 1).bind fun t173 => (if t173 < 0 then (some false) else (if t173 = bt162.1 then (some true) else (some false))))) else (some false))))) else (some false))))) else (some false))))) else (some false))))) = some r := by rw [if_pos rfl] at H; exact H
      clear H
      have H := H1
      clear H1
      by_cases c10 : (t151 != t144) = true
      · rw [if_pos c10] at H
        have c10b0 : (t151 != t144) = true := c10
        (try (have c10b1 : decide (t151 = t144) = false := by simpa using c10))
        (try (have c10b2 : (t151 == t144) = false := by simpa using c10))
        (try (have c10b3 : ¬ (t151 = t144) := by simpa using c10))
        clear c10
        obtain rfl := Option.some.inj H
        exact absurd ht_.out (by simp)
      · rw [if_neg c10] at H
        have c10b0 : (t151 != t144) = false := by simpa using c10
        (try (have c10b1 : decide (t151 = t144) = true := by simpa using c10))
        (try (have c10b2 : (t151 == t144) = true := by simpa using c10))
        clear c10
        replace H := Option.bind_eq_some_iff.mp H
        obtain ⟨t155, A110, H⟩ := H
        replace H : ((laws_eqIntS.f k t147 t155).bind fun t158 => (if t158 = true then ((laws_markIntS.f k t147 1).bind fun bt159 => (if bt159.1 < 0 then (some false) else ((laws_eqIntS.f k t150 t143).bind fun t161 => (if t161 = true then ((laws_markIntS.f k t150 1).bind fun bt162 => ((laws_heldIntS.f k bt162.2 1).bind fun t164 => (if t164 < 0 then (some false) else (if t164 = bt162.1 then ((laws_toIntS.f k l0).bind fun t165 => ((impl_ShadeThing.f k t165 a1).bind fun bt168 => ((laws_eqIntS.f k bt168.1 t143).bind fun t172 => (if t172 = true then (if (bt168.2 != t144) = true then (some false) else ((laws_heldIntS.f k bt162.2 1).bind fun t173 => (if t173 < 0 then (some false) else (if t173 = bt162.1 then (some true) else (some false))))) else (some false))))) else (some false))))) else (some false))))) else (some false))) = some r := H
        have A11 := Aside0.mk A110
        clear A110
        replace H := Option.bind_eq_some_iff.mp H
        obtain ⟨t158, A120, H⟩ := H
        replace H : (if t158 = true then ((laws_markIntS.f k t147 1).bind fun bt159 => (if bt159.1 < 0 then (some false) else ((laws_eqIntS.f k t150 t143).bind fun t161 => (if t161 = true then ((laws_markIntS.f k t150 1).bind fun bt162 => ((laws_heldIntS.f k bt162.2 1).bind fun t164 => (if t164 < 0 then (some false) else (if t164 = bt162.1 then ((laws_toIntS.f k l0).bind fun t165 => ((impl_ShadeThing.f k t165 a1).bind fun bt168 => ((laws_eqIntS.f k bt168.1 t143).bind fun t172 => (if t172 = true then (if (bt168.2 != t144) = true then (some false) else ((laws_heldIntS.f k bt162.2 1).bind fun t173 => (if t173 < 0 then (some false) else (if t173 = bt162.1 then (some true) else (some false))))) else (some false))))) else (some false))))) else (some false))))) else (some false)) = some r := H
        have A12 := Aside0.mk A120
        clear A120
        by_cases c13 : t158 = true
        · subst c13
          have H1 : ((laws_markIntS.f k t147 1).bind fun bt159 => (if bt159.1 < 0 then (some false) else ((laws_eqIntS.f k t150 t143).bind fun t161 => (if t161 = true then ((laws_markIntS.f k t150 1).bind fun bt162 => ((laws_heldIntS.f k bt162.2 1).bind fun t164 => (if t164 < 0 then (some false) else (if t164 = bt162.1 then ((laws_toIntS.f k l0).bind fun t165 => ((impl_ShadeThing.f k t165 a1).bind fun bt168 => ((laws_eqIntS.f k bt168.1 t143).bind fun t172 => (if t172 = true then (if (bt168.2 != t144) = true then (some false) else ((laws_heldIntS.f k bt162.2 1).bind fun t173 => (if t173 < 0 then (some false) else (if t173 = bt162.1 then (some true) else (some false))))) else (some false))))) else (some false))))) else (some false))))) = some r := by rw [if_pos rfl] at H; exact H
          clear H
          have H := H1
          clear H1
          replace H := Option.bind_eq_some_iff.mp H
          obtain ⟨⟨t159, t160⟩, A140, H⟩ := H
          replace H : (if t159 < 0 then (some false) else ((laws_eqIntS.f k t150 t143).bind fun t161 => (if t161 = true then ((laws_markIntS.f k t150 1).bind fun bt162 => ((laws_heldIntS.f k bt162.2 1).bind fun t164 => (if t164 < 0 then (some false) else (if t164 = bt162.1 then ((laws_toIntS.f k l0).bind fun t165 => ((impl_ShadeThing.f k t165 a1).bind fun bt168 => ((laws_eqIntS.f k bt168.1 t143).bind fun t172 => (if t172 = true then (if (bt168.2 != t144) = true then (some false) else ((laws_heldIntS.f k bt162.2 1).bind fun t173 => (if t173 < 0 then (some false) else (if t173 = bt162.1 then (some true) else (some false))))) else (some false))))) else (some false))))) else (some false)))) = some r := H
          have A14 := Aside0.mk A140
          clear A140
          by_cases c15 : t159 < 0
          · rw [if_pos c15] at H
            have c15b0 : decide (t159 < 0) = true := decide_eq_true c15
            clear c15
            obtain rfl := Option.some.inj H
            exact absurd ht_.out (by simp)
          · rw [if_neg c15] at H
            have c15b0 : decide (t159 < 0) = false := decide_eq_false c15
            clear c15
            replace H := Option.bind_eq_some_iff.mp H
            obtain ⟨t161, A160, H⟩ := H
            replace H : (if t161 = true then ((laws_markIntS.f k t150 1).bind fun bt162 => ((laws_heldIntS.f k bt162.2 1).bind fun t164 => (if t164 < 0 then (some false) else (if t164 = bt162.1 then ((laws_toIntS.f k l0).bind fun t165 => ((impl_ShadeThing.f k t165 a1).bind fun bt168 => ((laws_eqIntS.f k bt168.1 t143).bind fun t172 => (if t172 = true then (if (bt168.2 != t144) = true then (some false) else ((laws_heldIntS.f k bt162.2 1).bind fun t173 => (if t173 < 0 then (some false) else (if t173 = bt162.1 then (some true) else (some false))))) else (some false))))) else (some false))))) else (some false)) = some r := H
            have A16 := Aside0.mk A160
            clear A160
            by_cases c17 : t161 = true
            · subst c17
              have H1 : ((laws_markIntS.f k t150 1).bind fun bt162 => ((laws_heldIntS.f k bt162.2 1).bind fun t164 => (if t164 < 0 then (some false) else (if t164 = bt162.1 then ((laws_toIntS.f k l0).bind fun t165 => ((impl_ShadeThing.f k t165 a1).bind fun bt168 => ((laws_eqIntS.f k bt168.1 t143).bind fun t172 => (if t172 = true then (if (bt168.2 != t144) = true then (some false) else ((laws_heldIntS.f k bt162.2 1).bind fun t173 => (if t173 < 0 then (some false) else (if t173 = bt162.1 then (some true) else (some false))))) else (some false))))) else (some false))))) = some r := by rw [if_pos rfl] at H; exact H
              clear H
              have H := H1
              clear H1
              replace H := Option.bind_eq_some_iff.mp H
              obtain ⟨⟨t162, t163⟩, A180, H⟩ := H
              replace H : ((laws_heldIntS.f k t163 1).bind fun t164 => (if t164 < 0 then (some false) else (if t164 = t162 then ((laws_toIntS.f k l0).bind fun t165 => ((impl_ShadeThing.f k t165 a1).bind fun bt168 => ((laws_eqIntS.f k bt168.1 t143).bind fun t172 => (if t172 = true then (if (bt168.2 != t144) = true then (some false) else ((laws_heldIntS.f k t163 1).bind fun t173 => (if t173 < 0 then (some false) else (if t173 = t162 then (some true) else (some false))))) else (some false))))) else (some false)))) = some r := H
              have A18 := Aside0.mk A180
              clear A180
              replace H := Option.bind_eq_some_iff.mp H
              obtain ⟨t164, A190, H⟩ := H
              replace H : (if t164 < 0 then (some false) else (if t164 = t162 then ((laws_toIntS.f k l0).bind fun t165 => ((impl_ShadeThing.f k t165 a1).bind fun bt168 => ((laws_eqIntS.f k bt168.1 t143).bind fun t172 => (if t172 = true then (if (bt168.2 != t144) = true then (some false) else ((laws_heldIntS.f k t163 1).bind fun t173 => (if t173 < 0 then (some false) else (if t173 = t162 then (some true) else (some false))))) else (some false))))) else (some false))) = some r := H
              have A19 := Aside0.mk A190
              clear A190
              by_cases c20 : t164 < 0
              · rw [if_pos c20] at H
                have c20b0 : decide (t164 < 0) = true := decide_eq_true c20
                clear c20
                obtain rfl := Option.some.inj H
                exact absurd ht_.out (by simp)
              · rw [if_neg c20] at H
                have c20b0 : decide (t164 < 0) = false := decide_eq_false c20
                clear c20
                by_cases c21 : t164 = t162
                · rw [if_pos c21] at H
                  have c21b0 : (t164 == t162) = true := beq_iff_eq.mpr c21
                  have c21b1 : (t164 != t162) = false := bne_eq_false_iff_eq.mpr c21
                  clear c21
                  replace H := Option.bind_eq_some_iff.mp H
                  obtain ⟨t165, A220, H⟩ := H
                  replace H : ((impl_ShadeThing.f k t165 a1).bind fun bt168 => ((laws_eqIntS.f k bt168.1 t143).bind fun t172 => (if t172 = true then (if (bt168.2 != t144) = true then (some false) else ((laws_heldIntS.f k t163 1).bind fun t173 => (if t173 < 0 then (some false) else (if t173 = t162 then (some true) else (some false))))) else (some false)))) = some r := H
                  have A22 := Aside0.mk A220
                  clear A220
                  replace H := Option.bind_eq_some_iff.mp H
                  obtain ⟨⟨t168, t169⟩, A230, H⟩ := H
                  replace H : ((laws_eqIntS.f k t168 t143).bind fun t172 => (if t172 = true then (if (t169 != t144) = true then (some false) else ((laws_heldIntS.f k t163 1).bind fun t173 => (if t173 < 0 then (some false) else (if t173 = t162 then (some true) else (some false))))) else (some false))) = some r := H
                  have A23 := Aside0.mk A230
                  clear A230
                  replace H := Option.bind_eq_some_iff.mp H
                  obtain ⟨t172, A240, H⟩ := H
                  replace H : (if t172 = true then (if (t169 != t144) = true then (some false) else ((laws_heldIntS.f k t163 1).bind fun t173 => (if t173 < 0 then (some false) else (if t173 = t162 then (some true) else (some false))))) else (some false)) = some r := H
                  have A24 := Aside0.mk A240
                  clear A240
                  by_cases c25 : t172 = true
                  · subst c25
                    have H1 : (if (t169 != t144) = true then (some false) else ((laws_heldIntS.f k t163 1).bind fun t173 => (if t173 < 0 then (some false) else (if t173 = t162 then (some true) else (some false))))) = some r := by rw [if_pos rfl] at H; exact H
                    clear H
                    have H := H1
                    clear H1
                    by_cases c26 : (t169 != t144) = true
                    · rw [if_pos c26] at H
                      have c26b0 : (t169 != t144) = true := c26
                      (try (have c26b1 : decide (t169 = t144) = false := by simpa using c26))
                      (try (have c26b2 : (t169 == t144) = false := by simpa using c26))
                      (try (have c26b3 : ¬ (t169 = t144) := by simpa using c26))
                      clear c26
                      obtain rfl := Option.some.inj H
                      exact absurd ht_.out (by simp)
                    · rw [if_neg c26] at H
                      have c26b0 : (t169 != t144) = false := by simpa using c26
                      (try (have c26b1 : decide (t169 = t144) = true := by simpa using c26))
                      (try (have c26b2 : (t169 == t144) = true := by simpa using c26))
                      clear c26
                      replace H := Option.bind_eq_some_iff.mp H
                      obtain ⟨t173, A270, H⟩ := H
                      replace H : (if t173 < 0 then (some false) else (if t173 = t162 then (some true) else (some false))) = some r := H
                      have A27 := Aside0.mk A270
                      clear A270
                      by_cases c28 : t173 < 0
                      · rw [if_pos c28] at H
                        have c28b0 : decide (t173 < 0) = true := decide_eq_true c28
                        clear c28
                        obtain rfl := Option.some.inj H
                        exact absurd ht_.out (by simp)
                      · rw [if_neg c28] at H
                        have c28b0 : decide (t173 < 0) = false := decide_eq_false c28
                        clear c28
                        by_cases c29 : t173 = t162
                        · rw [if_pos c29] at H
                          have c29b0 : (t173 == t162) = true := beq_iff_eq.mpr c29
                          have c29b1 : (t173 != t162) = false := bne_eq_false_iff_eq.mpr c29
                          clear c29
                          obtain rfl := Option.some.inj H
                          go_enter Try.func5, Try.ntmps5
                          go_wp2_with (first | ((with_reducible refine gate_callee (f := 16) rfl ?_); refine goesL_ (some 20) rfl rfl Try.func16 (by kernel_rfl) rfl #[.slice A0 l0.length c0] rfl (by (try simp only [List.map_toArray, List.map_cons, List.map_nil]); first | done | rfl | (simp only [List.length_drop, List.length_take]; rfl)) ?_; (with_reducible refine (laws_toIntS.calls k _ _ l0 t140 _ ?side1 ?side2 A4.out).mono ?_); (case side1 => repeat (first | exact HR0.out | (with_reducible refine Kd.C_alloc ?_ _) | (with_reducible refine Kd.C_drewN ?_ _) | (with_reducible refine Kd.C_drew ?_))); (case side2 => exact HC0.out); rintro e w30 ⟨v141, rfl, ho0, hb⟩; refine ⟨_, rfl, ?_⟩; have n0_ := Aside0.mk (Kd.R_lower ho0 (below_size (by repeat (first | (with_reducible first | exact HB.out | apply below_alloc | apply pw_below_drewN | apply below_drew1) | exact HB.out)))); have n1_ := Aside0.mk (below_step (by repeat (first | (with_reducible first | exact HB.out | apply below_alloc | apply pw_below_drewN | apply below_drew1) | exact HB.out)) hb); clear HB; have HO142 := n0_; have HB := n1_; clear n0_ n1_; (try clear hb); (try clear hb2); (try clear hk); (try clear hi); (try clear ho0); obtain ⟨Ao31, co31, eo31⟩ := Kd.R_slice HO142.out; subst eo31) | ((with_reducible refine gate_callee (f := 23) rfl ?_); refine goesL_ (some 22) rfl rfl Try.func23 (by kernel_rfl) rfl #[.slice Ao31 t140.length co31, .int .i64 a1] rfl (by (try simp only [List.map_toArray, List.map_cons, List.map_nil]); first | done | rfl | (simp only [List.length_drop, List.length_take]; rfl)) ?_; (with_reducible refine (spec_ShadeThing.calls k _ _ t140 a1 t143 t144 _ ?side1 ?side2 A5.out).mono ?_); (case side1 => repeat (first | exact (Kd.R_reads' HO142.out).2.2 | (with_reducible refine Kd.C_alloc ?_ _) | (with_reducible refine Kd.C_drewN ?_ _) | (with_reducible refine Kd.C_drew ?_))); (case side2 => exact (Kd.R_reads' HO142.out).2.1); rintro e w32 ⟨v145, rfl, ho0, hb⟩; refine ⟨_, rfl, ?_⟩; have n0_ := Aside0.mk (Kd.R_elder' (by (with_reducible repeat (first | apply Kd.R_alloc | apply Kd.R_drewN | apply Kd.R_drew)); exact HO142.out) (Kd.R_base ho0) hb); have n1_ := Aside0.mk (Kd.R_lower (Kd.R_new' ho0 (Kd.R_lt (by (with_reducible repeat (first | apply Kd.R_alloc | apply Kd.R_drewN | apply Kd.R_drew)); exact HO142.out))) (below_size (by repeat (first | (with_reducible first | exact HB.out | apply below_alloc | apply pw_below_drewN | apply below_drew1) | exact HB.out)))); have n2_ := Aside0.mk (below_step (by repeat (first | (with_reducible first | exact HB.out | apply below_alloc | apply pw_below_drewN | apply below_drew1) | exact HB.out)) hb); clear HO142; clear HB; have HO142 := n0_; have HO146 := n1_; have HB := n2_; clear n0_ n1_ n2_; (try clear hb); (try clear hb2); (try clear hk); (try clear hi); (try clear ho0)) | ((with_reducible refine gate_callee (f := 16) rfl ?_); refine goesL_ (some 26) rfl rfl Try.func16 (by kernel_rfl) rfl #[.slice A0 l0.length c0] rfl (by (try simp only [List.map_toArray, List.map_cons, List.map_nil]); first | done | rfl | (simp only [List.length_drop, List.length_take]; rfl)) ?_; (with_reducible refine (laws_toIntS.calls k _ _ l0 t147 _ ?side1 ?side2 A6.out).mono ?_); (case side1 => repeat (first | exact (Kd.C_below HR0.out HB.out) | (with_reducible refine Kd.C_alloc ?_ _) | (with_reducible refine Kd.C_drewN ?_ _) | (with_reducible refine Kd.C_drew ?_))); (case side2 => exact HC0.out); rintro e w33 ⟨v148, rfl, ho0, hb⟩; refine ⟨_, rfl, ?_⟩; have n0_ := Aside0.mk (Kd.R_elder' (by (with_reducible repeat (first | apply Kd.R_alloc | apply Kd.R_drewN | apply Kd.R_drew)); exact HO142.out) (Kd.R_base ho0) hb); have n1_ := Aside0.mk (Kd.R_elder' (by (with_reducible repeat (first | apply Kd.R_alloc | apply Kd.R_drewN | apply Kd.R_drew)); exact HO146.out) (Kd.R_base ho0) hb); have n2_ := Aside0.mk (Kd.R_lower (Kd.R_new' (Kd.R_new' ho0 (Kd.R_lt (by (with_reducible repeat (first | apply Kd.R_alloc | apply Kd.R_drewN | apply Kd.R_drew)); exact HO142.out))) (Kd.R_lt (by (with_reducible repeat (first | apply Kd.R_alloc | apply Kd.R_drewN | apply Kd.R_drew)); exact HO146.out))) (below_size (by repeat (first | (with_reducible first | exact HB.out | apply below_alloc | apply pw_below_drewN | apply below_drew1) | exact HB.out)))); have n3_ := Aside0.mk (below_step (by repeat (first | (with_reducible first | exact HB.out | apply below_alloc | apply pw_below_drewN | apply below_drew1) | exact HB.out)) hb); clear HO142; clear HO146; clear HB; have HO142 := n0_; have HO146 := n1_; have HO149 := n2_; have HB := n3_; clear n0_ n1_ n2_ n3_; (try clear hb); (try clear hb2); (try clear hk); (try clear hi); (try clear ho0); obtain ⟨Ao34, co34, eo34⟩ := Kd.R_slice HO149.out; subst eo34) | ((with_reducible refine gate_callee (f := 24) rfl ?_); refine goesL_ (some 30) rfl rfl Try.func24 (by kernel_rfl) rfl #[.slice Ao34 t147.length co34, .int .i64 a1] rfl (by (try simp only [List.map_toArray, List.map_cons, List.map_nil]); first | done | rfl | (simp only [List.length_drop, List.length_take]; rfl)) ?_; (with_reducible refine (impl_ShadeThing.calls k _ _ t147 a1 t150 t151 _ ?side1 ?side2 A7.out).mono ?_); (case side1 => repeat (first | exact (Kd.R_reads' HO149.out).2.2 | (with_reducible refine Kd.C_alloc ?_ _) | (with_reducible refine Kd.C_drewN ?_ _) | (with_reducible refine Kd.C_drew ?_))); (case side2 => exact (Kd.R_reads' HO149.out).2.1); rintro e w35 ⟨v152, rfl, ho0, hb⟩; refine ⟨_, rfl, ?_⟩; have n0_ := Aside0.mk (Kd.R_elder' (by (with_reducible repeat (first | apply Kd.R_alloc | apply Kd.R_drewN | apply Kd.R_drew)); exact HO142.out) (Kd.R_base ho0) hb); have n1_ := Aside0.mk (Kd.R_elder' (by (with_reducible repeat (first | apply Kd.R_alloc | apply Kd.R_drewN | apply Kd.R_drew)); exact HO146.out) (Kd.R_base ho0) hb); have n2_ := Aside0.mk (Kd.R_elder' (by (with_reducible repeat (first | apply Kd.R_alloc | apply Kd.R_drewN | apply Kd.R_drew)); exact HO149.out) (Kd.R_base ho0) hb); have n3_ := Aside0.mk (Kd.R_lower (Kd.R_new' (Kd.R_new' (Kd.R_new' ho0 (Kd.R_lt (by (with_reducible repeat (first | apply Kd.R_alloc | apply Kd.R_drewN | apply Kd.R_drew)); exact HO142.out))) (Kd.R_lt (by (with_reducible repeat (first | apply Kd.R_alloc | apply Kd.R_drewN | apply Kd.R_drew)); exact HO146.out))) (Kd.R_lt (by (with_reducible repeat (first | apply Kd.R_alloc | apply Kd.R_drewN | apply Kd.R_drew)); exact HO149.out))) (below_size (by repeat (first | (with_reducible first | exact HB.out | apply below_alloc | apply pw_below_drewN | apply below_drew1) | exact HB.out)))); have n4_ := Aside0.mk (below_step (by repeat (first | (with_reducible first | exact HB.out | apply below_alloc | apply pw_below_drewN | apply below_drew1) | exact HB.out)) hb); clear HO142; clear HO146; clear HO149; clear HB; have HO142 := n0_; have HO146 := n1_; have HO149 := n2_; have HO153 := n3_; have HB := n4_; clear n0_ n1_ n2_ n3_ n4_; (try clear hb); (try clear hb2); (try clear hk); (try clear hi); (try clear ho0); obtain ⟨Ao36, co36, eo36⟩ := Kd.R_slice HO153.out; subst eo36; obtain ⟨Ao37, co37, eo37⟩ := Kd.R_slice HO146.out; subst eo37) | ((with_reducible refine gate_callee (f := 18) rfl ?_); refine goesL_ (some 35) rfl rfl Try.func18 (by kernel_rfl) rfl #[.slice Ao36 t150.length co36, .slice Ao37 t143.length co37] rfl (by (try simp only [List.map_toArray, List.map_cons, List.map_nil]); first | done | rfl | (simp only [List.length_drop, List.length_take]; rfl)) ?_; (with_reducible refine (laws_eqIntS.calls k _ _ t150 _ _ t143 true _ ?side1 ?side2 ?side3 ?side4 A8.out).mono ?_); (case side1 => repeat (first | exact (Kd.R_reads' HO153.out).2.2 | (with_reducible refine Kd.C_alloc ?_ _) | (with_reducible refine Kd.C_drewN ?_ _) | (with_reducible refine Kd.C_drew ?_))); (case side2 => exact (Kd.R_reads' HO153.out).2.1); (case side3 => repeat (first | exact (Kd.R_reads' HO146.out).2.2 | (with_reducible refine Kd.C_alloc ?_ _) | (with_reducible refine Kd.C_drewN ?_ _) | (with_reducible refine Kd.C_drew ?_))); (case side4 => exact (Kd.R_reads' HO146.out).2.1); rintro e w' ⟨rfl, ⟨nd, rfl⟩⟩; refine ⟨_, rfl, ?_⟩) | ((with_reducible refine gate_callee (f := 16) rfl ?_); refine goesL_ (some 44) rfl rfl Try.func16 (by kernel_rfl) rfl #[.slice A0 l0.length c0] rfl (by (try simp only [List.map_toArray, List.map_cons, List.map_nil]); first | done | rfl | (simp only [List.length_drop, List.length_take]; rfl)) ?_; (with_reducible refine (laws_toIntS.calls k _ _ l0 t155 _ ?side1 ?side2 A11.out).mono ?_); (case side1 => repeat (first | exact (Kd.C_below HR0.out (by repeat (first | (with_reducible first | exact HB.out | apply below_alloc | apply pw_below_drewN | apply below_drew1) | exact HB.out))) | (with_reducible refine Kd.C_alloc ?_ _) | (with_reducible refine Kd.C_drewN ?_ _) | (with_reducible refine Kd.C_drew ?_))); (case side2 => exact HC0.out); rintro e w38 ⟨v156, rfl, ho0, hb⟩; refine ⟨_, rfl, ?_⟩; have n0_ := Aside0.mk (Kd.R_elder' (by (with_reducible repeat (first | apply Kd.R_alloc | apply Kd.R_drewN | apply Kd.R_drew)); exact HO142.out) (Kd.R_base ho0) hb); have n1_ := Aside0.mk (Kd.R_elder' (by (with_reducible repeat (first | apply Kd.R_alloc | apply Kd.R_drewN | apply Kd.R_drew)); exact HO146.out) (Kd.R_base ho0) hb); have n2_ := Aside0.mk (Kd.R_elder' (by (with_reducible repeat (first | apply Kd.R_alloc | apply Kd.R_drewN | apply Kd.R_drew)); exact HO149.out) (Kd.R_base ho0) hb); have n3_ := Aside0.mk (Kd.R_elder' (by (with_reducible repeat (first | apply Kd.R_alloc | apply Kd.R_drewN | apply Kd.R_drew)); exact HO153.out) (Kd.R_base ho0) hb); have n4_ := Aside0.mk (Kd.R_lower (Kd.R_new' (Kd.R_new' (Kd.R_new' (Kd.R_new' ho0 (Kd.R_lt (by (with_reducible repeat (first | apply Kd.R_alloc | apply Kd.R_drewN | apply Kd.R_drew)); exact HO142.out))) (Kd.R_lt (by (with_reducible repeat (first | apply Kd.R_alloc | apply Kd.R_drewN | apply Kd.R_drew)); exact HO146.out))) (Kd.R_lt (by (with_reducible repeat (first | apply Kd.R_alloc | apply Kd.R_drewN | apply Kd.R_drew)); exact HO149.out))) (Kd.R_lt (by (with_reducible repeat (first | apply Kd.R_alloc | apply Kd.R_drewN | apply Kd.R_drew)); exact HO153.out))) (below_size (by repeat (first | (with_reducible first | exact HB.out | apply below_alloc | apply pw_below_drewN | apply below_drew1) | exact HB.out)))); have n5_ := Aside0.mk (below_step (by repeat (first | (with_reducible first | exact HB.out | apply below_alloc | apply pw_below_drewN | apply below_drew1) | exact HB.out)) hb); clear HO142; clear HO146; clear HO149; clear HO153; clear HB; have HO142 := n0_; have HO146 := n1_; have HO149 := n2_; have HO153 := n3_; have HO157 := n4_; have HB := n5_; clear n0_ n1_ n2_ n3_ n4_ n5_; (try clear hb); (try clear hb2); (try clear hk); (try clear hi); (try clear ho0); obtain ⟨Ao39, co39, eo39⟩ := Kd.R_slice HO157.out; subst eo39) | ((with_reducible refine gate_callee (f := 18) rfl ?_); refine goesL_ (some 45) rfl rfl Try.func18 (by kernel_rfl) rfl #[.slice Ao34 t147.length co34, .slice Ao39 t155.length co39] rfl (by (try simp only [List.map_toArray, List.map_cons, List.map_nil]); first | done | rfl | (simp only [List.length_drop, List.length_take]; rfl)) ?_; (with_reducible refine (laws_eqIntS.calls k _ _ t147 _ _ t155 true _ ?side1 ?side2 ?side3 ?side4 A12.out).mono ?_); (case side1 => repeat (first | exact (Kd.R_reads' HO149.out).2.2 | (with_reducible refine Kd.C_alloc ?_ _) | (with_reducible refine Kd.C_drewN ?_ _) | (with_reducible refine Kd.C_drew ?_))); (case side2 => exact (Kd.R_reads' HO149.out).2.1); (case side3 => repeat (first | exact (Kd.R_reads' HO157.out).2.2 | (with_reducible refine Kd.C_alloc ?_ _) | (with_reducible refine Kd.C_drewN ?_ _) | (with_reducible refine Kd.C_drew ?_))); (case side4 => exact (Kd.R_reads' HO157.out).2.1); rintro e w' ⟨rfl, ⟨nd, rfl⟩⟩; refine ⟨_, rfl, ?_⟩) | ((with_reducible refine gate_callee (f := 19) rfl ?_); refine goesL_ (some 49) rfl rfl Try.func19 (by kernel_rfl) rfl #[.slice Ao34 t147.length co34, .int .i64 1] rfl (by (try simp only [List.map_toArray, List.map_cons, List.map_nil]); first | done | rfl | (simp only [List.length_drop, List.length_take]; rfl)) ?_; (with_reducible refine (laws_markIntS.calls k (fun k_ => some k_ = (.slice Ao34 t147.length co34 : Value).ownBlock) (.slice Ao34 t147.length co34) t147 1 t159 t160 w _ ?side1 ?side2 A14.out).mono ?_); (case side1 => repeat (first | (with_reducible first | exact HB.out | apply below_alloc | apply pw_below_drewN | apply below_drew1) | exact HB.out)); (case side2 => exact Kd.R_tight rfl HO149.out); rintro e w40 ⟨rfl, hy0, hb, hkp⟩; refine ⟨_, rfl, ?_⟩; have n0_ := Aside0.mk (Kd.R_mono (ok' := fun k_ => some k_ ≠ (.slice Ao37 t143.length co37 : Value).ownBlock ∧ some k_ ≠ (.slice Ao34 t147.length co34 : Value).ownBlock ∧ some k_ ≠ (.slice Ao36 t150.length co36 : Value).ownBlock ∧ some k_ ≠ (.slice Ao39 t155.length co39 : Value).ownBlock) (Kd.R_keptB (HO142.out) hkp (fun k_ hk_ hs_ => (hk_.1.1.2) hs_)) (fun k_ hk_ => ⟨hk_.1.1.1.1.2, hk_.1.1.1.2, hk_.1.1.2, hk_.1.2⟩)); have n1_ := Aside0.mk (Kd.R_mono (ok' := fun k_ => some k_ ≠ (.slice Ao31 t140.length co31 : Value).ownBlock ∧ some k_ ≠ (.slice Ao34 t147.length co34 : Value).ownBlock ∧ some k_ ≠ (.slice Ao36 t150.length co36 : Value).ownBlock ∧ some k_ ≠ (.slice Ao39 t155.length co39 : Value).ownBlock) (Kd.R_keptB (HO146.out) hkp (fun k_ hk_ hs_ => (hk_.1.1.2) hs_)) (fun k_ hk_ => ⟨hk_.1.1.1.1.2, hk_.1.1.1.2, hk_.1.1.2, hk_.1.2⟩)); have n2_ := Aside0.mk (Kd.R_reok rfl hy0 (fun k_ e_ => HO149.out.1 k_ e_)); have n3_ := Aside0.mk (Kd.R_mono (ok' := fun k_ => some k_ ≠ (.slice Ao31 t140.length co31 : Value).ownBlock ∧ some k_ ≠ (.slice Ao37 t143.length co37 : Value).ownBlock ∧ some k_ ≠ (.slice Ao34 t147.length co34 : Value).ownBlock ∧ some k_ ≠ (.slice Ao39 t155.length co39 : Value).ownBlock) (Kd.R_keptB (HO153.out) hkp (fun k_ hk_ hs_ => (hk_.1.2) hs_)) (fun k_ hk_ => ⟨hk_.1.1.1.1.2, hk_.1.1.1.2, hk_.1.1.2, hk_.1.2⟩)); have n4_ := Aside0.mk (Kd.R_mono (ok' := fun k_ => some k_ ≠ (.slice Ao31 t140.length co31 : Value).ownBlock ∧ some k_ ≠ (.slice Ao37 t143.length co37 : Value).ownBlock ∧ some k_ ≠ (.slice Ao34 t147.length co34 : Value).ownBlock ∧ some k_ ≠ (.slice Ao36 t150.length co36 : Value).ownBlock) (Kd.R_keptB (HO157.out) hkp (fun k_ hk_ hs_ => (hk_.1.2) hs_)) (fun k_ hk_ => ⟨hk_.1.1.1.1.2, hk_.1.1.1.2, hk_.1.1.2, hk_.1.2⟩)); have n5_ := Aside0.mk (hb); clear HO142; clear HO146; clear HO149; clear HO153; clear HO157; clear HB; have HO142 := n0_; have HO146 := n1_; have HO149 := n2_; have HO153 := n3_; have HO157 := n4_; have HB := n5_; clear n0_ n1_ n2_ n3_ n4_ n5_; (try clear hb); (try clear hkp); (try clear hy0)) | (go_at_call 18; (with_reducible refine (laws_eqIntS.calls k _ _ t150 _ _ t143 true _ ?side1 ?side2 ?side3 ?side4 A16.out).mono ?_); (case side1 => repeat (first | exact (Kd.R_reads' HO153.out).2.2 | (with_reducible refine Kd.C_alloc ?_ _) | (with_reducible refine Kd.C_drewN ?_ _) | (with_reducible refine Kd.C_drew ?_))); (case side2 => exact (Kd.R_reads' HO153.out).2.1); (case side3 => repeat (first | exact (Kd.R_reads' HO146.out).2.2 | (with_reducible refine Kd.C_alloc ?_ _) | (with_reducible refine Kd.C_drewN ?_ _) | (with_reducible refine Kd.C_drew ?_))); (case side4 => exact (Kd.R_reads' HO146.out).2.1); rintro e w' ⟨rfl, ⟨nd, rfl⟩⟩) | ((with_reducible refine gate_callee (f := 19) rfl ?_); refine goesL_ (some 65) rfl rfl Try.func19 (by kernel_rfl) rfl #[.slice Ao36 t150.length co36, .int .i64 1] rfl (by (try simp only [List.map_toArray, List.map_cons, List.map_nil]); first | done | rfl | (simp only [List.length_drop, List.length_take]; rfl)) ?_; (with_reducible refine (laws_markIntS.calls k (fun k_ => some k_ = (.slice Ao36 t150.length co36 : Value).ownBlock) (.slice Ao36 t150.length co36) t150 1 t162 t163 w _ ?side1 ?side2 A18.out).mono ?_); (case side1 => repeat (first | (with_reducible first | exact HB.out | apply below_alloc | apply pw_below_drewN | apply below_drew1) | exact HB.out)); (case side2 => exact Kd.R_tight rfl HO153.out); rintro e w41 ⟨rfl, hy0, hb, hkp⟩; refine ⟨_, rfl, ?_⟩; have n0_ := Aside0.mk (Kd.R_mono (ok' := fun k_ => some k_ ≠ (.slice Ao37 t143.length co37 : Value).ownBlock ∧ some k_ ≠ (.slice Ao34 t147.length co34 : Value).ownBlock ∧ some k_ ≠ (.slice Ao36 t150.length co36 : Value).ownBlock ∧ some k_ ≠ (.slice Ao39 t155.length co39 : Value).ownBlock) (Kd.R_keptB (HO142.out) hkp (fun k_ hk_ hs_ => (hk_.2.2.1) hs_)) (fun k_ hk_ => ⟨hk_.1.1, hk_.1.2.1, hk_.1.2.2.1, hk_.1.2.2.2⟩)); have n1_ := Aside0.mk (Kd.R_mono (ok' := fun k_ => some k_ ≠ (.slice Ao31 t140.length co31 : Value).ownBlock ∧ some k_ ≠ (.slice Ao34 t147.length co34 : Value).ownBlock ∧ some k_ ≠ (.slice Ao36 t150.length co36 : Value).ownBlock ∧ some k_ ≠ (.slice Ao39 t155.length co39 : Value).ownBlock) (Kd.R_keptB (HO146.out) hkp (fun k_ hk_ hs_ => (hk_.2.2.1) hs_)) (fun k_ hk_ => ⟨hk_.1.1, hk_.1.2.1, hk_.1.2.2.1, hk_.1.2.2.2⟩)); have n2_ := Aside0.mk (Kd.R_mono (ok' := fun k_ => some k_ ≠ (.slice Ao31 t140.length co31 : Value).ownBlock ∧ some k_ ≠ (.slice Ao37 t143.length co37 : Value).ownBlock ∧ some k_ ≠ (.slice Ao36 t150.length co36 : Value).ownBlock ∧ some k_ ≠ (.slice Ao39 t155.length co39 : Value).ownBlock) (Kd.R_keptB (HO149.out) hkp (fun k_ hk_ hs_ => (hk_.1.2) hs_)) (fun k_ hk_ => ⟨hk_.1.1.1.1.2, hk_.1.1.1.2, hk_.1.1.2, hk_.1.2⟩)); have n3_ := Aside0.mk (Kd.R_reok rfl hy0 (fun k_ e_ => HO153.out.1 k_ e_)); have n4_ := Aside0.mk (Kd.R_mono (ok' := fun k_ => some k_ ≠ (.slice Ao31 t140.length co31 : Value).ownBlock ∧ some k_ ≠ (.slice Ao37 t143.length co37 : Value).ownBlock ∧ some k_ ≠ (.slice Ao34 t147.length co34 : Value).ownBlock ∧ some k_ ≠ (.slice Ao36 t150.length co36 : Value).ownBlock) (Kd.R_keptB (HO157.out) hkp (fun k_ hk_ hs_ => (hk_.2.2.2) hs_)) (fun k_ hk_ => ⟨hk_.1.1, hk_.1.2.1, hk_.1.2.2.1, hk_.1.2.2.2⟩)); have n5_ := Aside0.mk (hb); clear HO142; clear HO146; clear HO149; clear HO153; clear HO157; clear HB; have HO142 := n0_; have HO146 := n1_; have HO149 := n2_; have HO153 := n3_; have HO157 := n4_; have HB := n5_; clear n0_ n1_ n2_ n3_ n4_ n5_; (try clear hb); (try clear hkp); (try clear hy0)) | ((with_reducible refine gate_callee (f := 20) rfl ?_); refine goesL_ (some 68) rfl rfl Try.func20 (by kernel_rfl) rfl #[.slice Ao36 t163.length co36, .int .i64 1] rfl (by (try simp only [List.map_toArray, List.map_cons, List.map_nil]); first | done | (rw [show t163.length = t150.length from (Kd.R_reads' HO153.out).1.symm] <;> rfl) | rfl | (simp only [List.length_drop, List.length_take]; rfl)) ?_; (with_reducible refine (laws_heldIntS.calls k _ _ t163 1 t164 _ ?side1 ?side2 A19.out).mono ?_); (case side1 => repeat (first | exact (Kd.R_reads' HO153.out).2.2 | (with_reducible refine Kd.C_alloc ?_ _) | (with_reducible refine Kd.C_drewN ?_ _) | (with_reducible refine Kd.C_drew ?_))); (case side2 => rw [show t163.length = t150.length from (Kd.R_reads' HO153.out).1.symm]; exact (Kd.R_reads' HO153.out).2.1); rintro e w' ⟨rfl, ⟨nd, rfl⟩⟩; refine ⟨_, rfl, ?_⟩) | ((with_reducible refine gate_callee (f := 16) rfl ?_); refine goesL_ (some 76) rfl rfl Try.func16 (by kernel_rfl) rfl #[.slice A0 l0.length c0] rfl (by (try simp only [List.map_toArray, List.map_cons, List.map_nil]); first | done | rfl | (simp only [List.length_drop, List.length_take]; rfl)) ?_; (with_reducible refine (laws_toIntS.calls k _ _ l0 t165 _ ?side1 ?side2 A22.out).mono ?_); (case side1 => repeat (first | exact (Kd.C_below HR0.out (by repeat (first | (with_reducible first | exact HB.out | apply below_alloc | apply pw_below_drewN | apply below_drew1) | exact HB.out))) | (with_reducible refine Kd.C_alloc ?_ _) | (with_reducible refine Kd.C_drewN ?_ _) | (with_reducible refine Kd.C_drew ?_))); (case side2 => exact HC0.out); rintro e w42 ⟨v166, rfl, ho0, hb⟩; refine ⟨_, rfl, ?_⟩; have n0_ := Aside0.mk (Kd.R_elder' (by (with_reducible repeat (first | apply Kd.R_alloc | apply Kd.R_drewN | apply Kd.R_drew)); exact HO142.out) (Kd.R_base ho0) hb); have n1_ := Aside0.mk (Kd.R_elder' (by (with_reducible repeat (first | apply Kd.R_alloc | apply Kd.R_drewN | apply Kd.R_drew)); exact HO146.out) (Kd.R_base ho0) hb); have n2_ := Aside0.mk (Kd.R_elder' (by (with_reducible repeat (first | apply Kd.R_alloc | apply Kd.R_drewN | apply Kd.R_drew)); exact HO149.out) (Kd.R_base ho0) hb); have n3_ := Aside0.mk (Kd.R_elder' (by (with_reducible repeat (first | apply Kd.R_alloc | apply Kd.R_drewN | apply Kd.R_drew)); exact HO153.out) (Kd.R_base ho0) hb); have n4_ := Aside0.mk (Kd.R_elder' (by (with_reducible repeat (first | apply Kd.R_alloc | apply Kd.R_drewN | apply Kd.R_drew)); exact HO157.out) (Kd.R_base ho0) hb); have n5_ := Aside0.mk (Kd.R_lower (Kd.R_new' (Kd.R_new' (Kd.R_new' (Kd.R_new' (Kd.R_new' ho0 (Kd.R_lt (by (with_reducible repeat (first | apply Kd.R_alloc | apply Kd.R_drewN | apply Kd.R_drew)); exact HO142.out))) (Kd.R_lt (by (with_reducible repeat (first | apply Kd.R_alloc | apply Kd.R_drewN | apply Kd.R_drew)); exact HO146.out))) (Kd.R_lt (by (with_reducible repeat (first | apply Kd.R_alloc | apply Kd.R_drewN | apply Kd.R_drew)); exact HO149.out))) (Kd.R_lt (by (with_reducible repeat (first | apply Kd.R_alloc | apply Kd.R_drewN | apply Kd.R_drew)); exact HO153.out))) (Kd.R_lt (by (with_reducible repeat (first | apply Kd.R_alloc | apply Kd.R_drewN | apply Kd.R_drew)); exact HO157.out))) (below_size (by repeat (first | (with_reducible first | exact HB.out | apply below_alloc | apply pw_below_drewN | apply below_drew1) | exact HB.out)))); have n6_ := Aside0.mk (below_step (by repeat (first | (with_reducible first | exact HB.out | apply below_alloc | apply pw_below_drewN | apply below_drew1) | exact HB.out)) hb); clear HO142; clear HO146; clear HO149; clear HO153; clear HO157; clear HB; have HO142 := n0_; have HO146 := n1_; have HO149 := n2_; have HO153 := n3_; have HO157 := n4_; have HO167 := n5_; have HB := n6_; clear n0_ n1_ n2_ n3_ n4_ n5_ n6_; (try clear hb); (try clear hb2); (try clear hk); (try clear hi); (try clear ho0); obtain ⟨Ao43, co43, eo43⟩ := Kd.R_slice HO167.out; subst eo43) | ((with_reducible refine gate_callee (f := 24) rfl ?_); refine goesL_ (some 78) rfl rfl Try.func24 (by kernel_rfl) rfl #[.slice Ao43 t165.length co43, .int .i64 a1] rfl (by (try simp only [List.map_toArray, List.map_cons, List.map_nil]); first | done | rfl | (simp only [List.length_drop, List.length_take]; rfl)) ?_; (with_reducible refine (impl_ShadeThing.calls k _ _ t165 a1 t168 t169 _ ?side1 ?side2 A23.out).mono ?_); (case side1 => repeat (first | exact (Kd.R_reads' HO167.out).2.2 | (with_reducible refine Kd.C_alloc ?_ _) | (with_reducible refine Kd.C_drewN ?_ _) | (with_reducible refine Kd.C_drew ?_))); (case side2 => exact (Kd.R_reads' HO167.out).2.1); rintro e w44 ⟨v170, rfl, ho0, hb⟩; refine ⟨_, rfl, ?_⟩; have n0_ := Aside0.mk (Kd.R_elder' (by (with_reducible repeat (first | apply Kd.R_alloc | apply Kd.R_drewN | apply Kd.R_drew)); exact HO142.out) (Kd.R_base ho0) hb); have n1_ := Aside0.mk (Kd.R_elder' (by (with_reducible repeat (first | apply Kd.R_alloc | apply Kd.R_drewN | apply Kd.R_drew)); exact HO146.out) (Kd.R_base ho0) hb); have n2_ := Aside0.mk (Kd.R_elder' (by (with_reducible repeat (first | apply Kd.R_alloc | apply Kd.R_drewN | apply Kd.R_drew)); exact HO149.out) (Kd.R_base ho0) hb); have n3_ := Aside0.mk (Kd.R_elder' (by (with_reducible repeat (first | apply Kd.R_alloc | apply Kd.R_drewN | apply Kd.R_drew)); exact HO153.out) (Kd.R_base ho0) hb); have n4_ := Aside0.mk (Kd.R_elder' (by (with_reducible repeat (first | apply Kd.R_alloc | apply Kd.R_drewN | apply Kd.R_drew)); exact HO157.out) (Kd.R_base ho0) hb); have n5_ := Aside0.mk (Kd.R_elder' (by (with_reducible repeat (first | apply Kd.R_alloc | apply Kd.R_drewN | apply Kd.R_drew)); exact HO167.out) (Kd.R_base ho0) hb); have n6_ := Aside0.mk (Kd.R_lower (Kd.R_new' (Kd.R_new' (Kd.R_new' (Kd.R_new' (Kd.R_new' (Kd.R_new' ho0 (Kd.R_lt (by (with_reducible repeat (first | apply Kd.R_alloc | apply Kd.R_drewN | apply Kd.R_drew)); exact HO142.out))) (Kd.R_lt (by (with_reducible repeat (first | apply Kd.R_alloc | apply Kd.R_drewN | apply Kd.R_drew)); exact HO146.out))) (Kd.R_lt (by (with_reducible repeat (first | apply Kd.R_alloc | apply Kd.R_drewN | apply Kd.R_drew)); exact HO149.out))) (Kd.R_lt (by (with_reducible repeat (first | apply Kd.R_alloc | apply Kd.R_drewN | apply Kd.R_drew)); exact HO153.out))) (Kd.R_lt (by (with_reducible repeat (first | apply Kd.R_alloc | apply Kd.R_drewN | apply Kd.R_drew)); exact HO157.out))) (Kd.R_lt (by (with_reducible repeat (first | apply Kd.R_alloc | apply Kd.R_drewN | apply Kd.R_drew)); exact HO167.out))) (below_size (by repeat (first | (with_reducible first | exact HB.out | apply below_alloc | apply pw_below_drewN | apply below_drew1) | exact HB.out)))); have n7_ := Aside0.mk (below_step (by repeat (first | (with_reducible first | exact HB.out | apply below_alloc | apply pw_below_drewN | apply below_drew1) | exact HB.out)) hb); clear HO142; clear HO146; clear HO149; clear HO153; clear HO157; clear HO167; clear HB; have HO142 := n0_; have HO146 := n1_; have HO149 := n2_; have HO153 := n3_; have HO157 := n4_; have HO167 := n5_; have HO171 := n6_; have HB := n7_; clear n0_ n1_ n2_ n3_ n4_ n5_ n6_ n7_; (try clear hb); (try clear hb2); (try clear hk); (try clear hi); (try clear ho0); obtain ⟨Ao45, co45, eo45⟩ := Kd.R_slice HO171.out; subst eo45) | ((with_reducible refine gate_callee (f := 18) rfl ?_); refine goesL_ (some 83) rfl rfl Try.func18 (by kernel_rfl) rfl #[.slice Ao45 t168.length co45, .slice Ao37 t143.length co37] rfl (by (try simp only [List.map_toArray, List.map_cons, List.map_nil]); first | done | rfl | (simp only [List.length_drop, List.length_take]; rfl)) ?_; (with_reducible refine (laws_eqIntS.calls k _ _ t168 _ _ t143 true _ ?side1 ?side2 ?side3 ?side4 A24.out).mono ?_); (case side1 => repeat (first | exact (Kd.R_reads' HO171.out).2.2 | (with_reducible refine Kd.C_alloc ?_ _) | (with_reducible refine Kd.C_drewN ?_ _) | (with_reducible refine Kd.C_drew ?_))); (case side2 => exact (Kd.R_reads' HO171.out).2.1); (case side3 => repeat (first | exact (Kd.R_reads' HO146.out).2.2 | (with_reducible refine Kd.C_alloc ?_ _) | (with_reducible refine Kd.C_drewN ?_ _) | (with_reducible refine Kd.C_drew ?_))); (case side4 => exact (Kd.R_reads' HO146.out).2.1); rintro e w' ⟨rfl, ⟨nd, rfl⟩⟩; refine ⟨_, rfl, ?_⟩) | ((with_reducible refine gate_callee (f := 20) rfl ?_); refine goesL_ (some 92) rfl rfl Try.func20 (by kernel_rfl) rfl #[.slice Ao36 t163.length co36, .int .i64 1] rfl (by (try simp only [List.map_toArray, List.map_cons, List.map_nil]); first | done | (rw [show t163.length = t150.length from (Kd.R_reads' HO153.out).1.symm] <;> rfl) | rfl | (simp only [List.length_drop, List.length_take]; rfl)) ?_; (with_reducible refine (laws_heldIntS.calls k _ _ t163 1 t173 _ ?side1 ?side2 A27.out).mono ?_); (case side1 => repeat (first | exact (Kd.R_reads' HO153.out).2.2 | (with_reducible refine Kd.C_alloc ?_ _) | (with_reducible refine Kd.C_drewN ?_ _) | (with_reducible refine Kd.C_drew ?_))); (case side2 => rw [show t163.length = t150.length from (Kd.R_reads' HO153.out).1.symm]; exact (Kd.R_reads' HO153.out).2.1); rintro e w' ⟨rfl, ⟨nd, rfl⟩⟩; refine ⟨_, rfl, ?_⟩))
                          go_ret
                          exact ⟨by first | rfl | (simp [errW_none, errW_some] <;> rfl) | (simp [*, errW_none, errW_some] <;> rfl), by repeat (first | (with_reducible first | exact HB.out | apply below_alloc | apply pw_below_drewN | apply below_drew1) | exact HB.out)⟩
                        · rw [if_neg c29] at H
                          have c29b0 : (t173 == t162) = false := beq_eq_false_iff_ne.mpr c29
                          have c29b1 : (t173 != t162) = true := bne_iff_ne.mpr c29
                          obtain rfl := Option.some.inj H
                          exact absurd ht_.out (by simp)
                  · replace c25 := Bool.eq_false_iff.mpr c25
                    subst c25
                    have H1 : (some false) = some r := by rw [if_neg (show ¬ (false = true) by decide)] at H; exact H
                    clear H
                    have H := H1
                    clear H1
                    obtain rfl := Option.some.inj H
                    exact absurd ht_.out (by simp)
                · rw [if_neg c21] at H
                  have c21b0 : (t164 == t162) = false := beq_eq_false_iff_ne.mpr c21
                  have c21b1 : (t164 != t162) = true := bne_iff_ne.mpr c21
                  obtain rfl := Option.some.inj H
                  exact absurd ht_.out (by simp)
            · replace c17 := Bool.eq_false_iff.mpr c17
              subst c17
              have H1 : (some false) = some r := by rw [if_neg (show ¬ (false = true) by decide)] at H; exact H
              clear H
              have H := H1
              clear H1
              obtain rfl := Option.some.inj H
              exact absurd ht_.out (by simp)
        · replace c13 := Bool.eq_false_iff.mpr c13
          subst c13
          have H1 : (some false) = some r := by rw [if_neg (show ¬ (false = true) by decide)] at H; exact H
          clear H
          have H := H1
          clear H1
          obtain rfl := Option.some.inj H
          exact absurd ht_.out (by simp)
    · replace c9 := Bool.eq_false_iff.mpr c9
      subst c9
      have H1 : (some false) = some r := by rw [if_neg (show ¬ (false = true) by decide)] at H; exact H
      clear H
      have H := H1
      clear H1
      obtain rfl := Option.some.inj H
      exact absurd ht_.out (by simp)

/-- THE ONE PURE STATEMENT of laws_FnExactShadeThing: yours. -/
def laws_FnExactShadeThing.Pure : Prop := ∀ (l0 : List Int) (a1 : Int), (l0.length ≤ maxLen ∧ ∀ y_ ∈ l0, (Lit.int .i64 y_).wf = true) → ((Lit.int .i64 a1).wf = true) → ∃ k, laws_FnExactShadeThing.f k l0 a1 = some true

end Go.Proofs.Ytdpjnfnpkpjmoaa.QFnExactShadeThing
