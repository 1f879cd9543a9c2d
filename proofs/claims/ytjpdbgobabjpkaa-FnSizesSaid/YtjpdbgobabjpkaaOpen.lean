/- What is read at a type is of a kind: int, bool, slices, structs; of plain values for the rows of laws with structs among their parameters. No condition. -/
import Derived.Test.YtjpdbgobabjpkaaWWords
import Derived.Test.YtjpdbgobabjpkaaWSized
import Derived.Deep.Slices
import Derived.ChangeSlices
import Derived.ChangeArms
import Derived.WideShapes
import Derived.Carry
namespace Go.Proofs.YtjpdbgobabjpkaaOpen
open Go Go.RowKit Go.ChangeShapes Go.WideShapes Go.Proofs.YtjpdbgobabjpkaaW.PrintWords

/-- What is read at type t lies in memory as kind K tells, and G holds of it. -/
def Opens (P : Program) (t : TypeId) {α : Type} (K : Kd α) (G : α → Prop) : Prop :=
  ∀ (H : Type) (enc : TypeId × Value → H) (w : World) (fuel : Nat) (cs : List Value) (x : DataW H × List MemPlace), DataW.trod enc P w 0 (fun _ => true) true fuel t cs = some x → ∃ v, K.K w v cs ∧ G v

section
variable {P : Program} {t e : TypeId}

theorem opens_int {k : IntKind} (ht : P.underlying t = some (.int k)) : Opens P t (Kd.int k) (fun n => (Lit.int k n).wf = true) := by
  intro H enc w fuel cs x h
  obtain ⟨n, rfl, _, hw⟩ := DataW.trod_int ht h
  exact ⟨n, rfl, hw⟩

theorem opens_bool (ht : P.underlying t = some .bool) : Opens P t Kd.bool (fun _ => True) := by
  intro H enc w fuel cs x h
  obtain ⟨b, rfl, _⟩ := DataW.trod_bool ht h
  exact ⟨b, rfl, trivial⟩

theorem opens_slice {α : Type} [Inhabited α] {K : Kd α} {G : α → Prop} (ht : P.underlying t = some (.slice e)) (hc : P.cellsOf e = K.sz) (hK : Opens P e K G) :
    Opens P t (Kd.slice e K) (fun xs => xs.length ≤ maxLen ∧ ∀ x ∈ xs, G x) := by
  intro H enc w fuel cs x h
  rcases Deep.open_slice ht h with ⟨rfl, _⟩ | ⟨a, len, cap, m, n, D, Pl, rfl, _, hl, hm, hmm, _, hx⟩
  · exact ⟨[], ⟨none, 0, rfl, Nat.le_refl _, rfl, by simp, fun h => absurd h (by simp)⟩, by simp, by simp⟩
  · have hm' : m = cap := by simpa using hmm
    subst hm'
    have each : ∀ i, i < len → ∃ v : α, (∃ cs', w.cells? 0 (a.add (i * P.cellsOf e)) (P.cellsOf e) = some cs' ∧ K.K w v cs') ∧ G v := by
      intro i hi
      obtain ⟨cs', h1, h2⟩ := hx i (by omega)
      obtain ⟨v, hv, hg⟩ := hK H enc w n cs' _ h2
      exact ⟨v, ⟨cs', h1, hv⟩, hg⟩
    obtain ⟨f, hf⟩ := Deep.choose_lt each
    refine ⟨(List.range len).map f, ⟨some a, m, by simp, by simpa using hl, ?_, ?_, ?_⟩, ?_, ?_⟩
    · simp
    · simp only [maxLen] at hm
      simp
      omega
    · intro _
      refine ⟨a, rfl, ?_⟩
      intro j p hj
      rw [List.getElem?_map] at hj
      obtain ⟨i, hi, rfl⟩ := Option.map_eq_some_iff.1 hj
      obtain ⟨hlt, rfl⟩ := List.getElem?_eq_some_iff.1 hi
      simp only [List.length_range] at hlt
      simp only [List.getElem_range]
      obtain ⟨⟨cs', h1, h2⟩, _⟩ := hf j hlt
      obtain ⟨_, hlen, hcell⟩ := World.cells?_some h1
      refine ⟨cs', K.K_len h2, h2, ?_⟩
      intro i u hu
      rw [← hc, ← add_add a (j * P.cellsOf e) i]
      have hi' : i < P.cellsOf e := by
        have := (List.getElem?_eq_some_iff.1 hu).1
        omega
      rw [hcell i hi']
      exact hu
    · simp
      omega
    · intro x hxm
      obtain ⟨i, hi, rfl⟩ := List.mem_map.1 hxm
      exact (hf i (by simpa using hi)).2

theorem opens_struct2 {f0 f1 : Field} {α β : Type} {K0 : Kd α} {K1 : Kd β} {G0 : α → Prop} {G1 : β → Prop} (ht : P.underlying t = some (.struct #[f0, f1])) (o0 : f0.offset = 0) (c0 : P.cellsOf f0.type = K0.sz) (o1 : f1.offset = K0.sz) (c1 : P.cellsOf f1.type = K1.sz) (ct : P.cellsOf t = K0.sz + K1.sz)
    (h0 : Opens P f0.type K0 G0) (h1 : Opens P f1.type K1 G1) : Opens P t (Kd.pair K0 K1) (fun x => G0 x.1 ∧ G1 x.2) := by
  intro H enc w fuel cs x h
  obtain ⟨xs, n, _, _, hl, hxl, hf⟩ := DataW.trod_struct ht h
  have a0 := hf 0 f0 rfl
  have a1 := hf 1 f1 rfl
  have hxl2 : xs.length = 2 := hxl
  rw [List.getElem?_eq_getElem (by omega), o0, c0, List.drop_zero] at a0
  rw [List.getElem?_eq_getElem (by omega), o1, c1, List.take_of_length_le (by rw [List.length_drop]; omega)] at a1
  obtain ⟨v0, k0, g0⟩ := h0 H enc w n _ _ a0
  obtain ⟨v1, k1, g1⟩ := h1 H enc w n _ _ a1
  exact ⟨(v0, v1), ⟨_, _, (List.take_append_drop K0.sz cs).symm, k0, k1⟩, g0, g1⟩

theorem opens_struct3 {f0 f1 f2 : Field} {α β γ : Type} {K0 : Kd α} {K1 : Kd β} {K2 : Kd γ} {G0 : α → Prop} {G1 : β → Prop} {G2 : γ → Prop} (ht : P.underlying t = some (.struct #[f0, f1, f2])) (o0 : f0.offset = 0) (c0 : P.cellsOf f0.type = K0.sz) (o1 : f1.offset = K0.sz) (c1 : P.cellsOf f1.type = K1.sz)
    (o2 : f2.offset = K0.sz + K1.sz) (c2 : P.cellsOf f2.type = K2.sz) (ct : P.cellsOf t = K0.sz + (K1.sz + K2.sz))
    (h0 : Opens P f0.type K0 G0) (h1 : Opens P f1.type K1 G1) (h2 : Opens P f2.type K2 G2) : Opens P t (Kd.pair K0 (Kd.pair K1 K2)) (fun x => G0 x.1 ∧ G1 x.2.1 ∧ G2 x.2.2) := by
  intro H enc w fuel cs x h
  obtain ⟨xs, n, _, _, hl, hxl, hf⟩ := DataW.trod_struct ht h
  have a0 := hf 0 f0 rfl
  have a1 := hf 1 f1 rfl
  have a2 := hf 2 f2 rfl
  have hxl2 : xs.length = 3 := hxl
  rw [List.getElem?_eq_getElem (by omega), o0, c0, List.drop_zero] at a0
  rw [List.getElem?_eq_getElem (by omega), o1, c1] at a1
  rw [List.getElem?_eq_getElem (by omega), o2, c2, List.take_of_length_le (by rw [List.length_drop]; omega)] at a2
  obtain ⟨v0, k0, g0⟩ := h0 H enc w n _ _ a0
  obtain ⟨v1, k1, g1⟩ := h1 H enc w n _ _ a1
  obtain ⟨v2, k2, g2⟩ := h2 H enc w n _ _ a2
  refine ⟨(v0, v1, v2), ⟨_, _, (List.take_append_drop K0.sz cs).symm, k0, ⟨_, _, ?_, k1, k2⟩⟩, g0, g1, g2⟩
  rw [← List.drop_drop]
  exact (List.take_append_drop K1.sz (cs.drop K0.sz)).symm

theorem opens_iso {α β : Type} {d : Kd α} {G : α → Prop} (f : β → α) (g : α → β) (hfg : ∀ a, f (g a) = a) (h : Opens P t d G) : Opens P t (Kd.iso d f) (fun b => G (f b)) := by
  intro H enc w fuel cs x hx
  obtain ⟨v, hk, hg⟩ := h H enc w fuel cs x hx
  refine ⟨g v, ?_, ?_⟩
  · show d.K w (f (g v)) cs
    rw [hfg]
    exact hk
  · show G (f (g v))
    rw [hfg]
    exact hg

/-- A struct that came in, by value. -/
theorem open_agg {α : Type} {K : Kd α} {G : α → Prop} {fs : Array Field} (ht : P.underlying t = some (.struct fs)) (hK : Opens P t K G) {H : Type} {enc : TypeId × Value → H} {w : World} {r : Reach} {b0 : Nat} {v : Value} {d : DataW H} {p : List MemPlace}
    (hv : Value.okWide P w r b0 t v) (h : DataW.Trod enc P w 0 (fun _ => true) true t v d p) : ∃ (cs : List Value) (x : α), v = .agg cs.toArray ∧ K.K w x cs ∧ G x := by
  obtain ⟨cs, rfl, hsz⟩ := okWide_struct ht hv
  obtain ⟨fuel, hf⟩ := h
  obtain ⟨x, hk, hg⟩ := hK H enc w fuel _ _ hf
  exact ⟨cs.toList, x, rfl, hk, hg⟩

/-- A slice that came in. -/
theorem open_row {α : Type} {K : Kd α} {G : List α → Prop} (ht : P.underlying t = some (.slice e)) (hK : Opens P t (Kd.slice e K) G) {H : Type} {enc : TypeId × Value → H} {w : World} {r : Reach} {b0 : Nat} {v : Value} {d : DataW H} {p : List MemPlace}
    (hv : Value.okWide P w r b0 t v) (h : DataW.Trod enc P w 0 (fun _ => true) true t v d p) : ∃ (A : Option Addr) (c : Nat) (xs : List α), v = .slice A xs.length c ∧ xs.length ≤ c ∧ K.C w A xs.length xs ∧ G xs := by
  obtain ⟨a, len, cap, rfl⟩ := okWide_slice ht hv
  obtain ⟨fuel, hf⟩ := h
  obtain ⟨x, ⟨A, c, hcs, hl, hC⟩, hg⟩ := hK H enc w fuel _ _ hf
  simp [Value.cells] at hcs
  obtain ⟨rfl, rfl, rfl⟩ := hcs
  exact ⟨_, _, x, rfl, hl, hC, hg⟩
end
end Go.Proofs.YtjpdbgobabjpkaaOpen
