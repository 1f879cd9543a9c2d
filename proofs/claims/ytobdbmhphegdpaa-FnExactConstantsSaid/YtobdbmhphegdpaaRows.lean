/-
  No cell of these rows narrows 'for every input' (looked for: loops, veiled, ifaces, maps, wideKeys, modest, calm, conditions, laid).
  DERIVED. THE GIVEN ROWS OF THIS SEAT. 6 by the template 'for every input the law returns true; each argument reads behind the call as it read before'; 0 by the template 'total and deterministic' (their statements: YtobdbmhphegdpaaTotals.lean).
  GIVEN WITH THE SEED: the statements are not yours to turn. If you find one false, say at which input.
  Laid BY PROGRAM, IN A SANDBOX (cutbox-rows.mjs): the forced cells as the released guide's own fill.sh prints them over the translation 270c5ea35f229c8c… (all of the seat's roots in one cut). By AI agents, Wed Nov 11 2026. No macro, syntax, notation, axiom, sorry.
-/
import Derived.Test.YtobdbmhphegdpaaChecked
import GoSem.Claim
import GoSem.ClaimJoined
import GoSem.ClaimMapViews
import Derived.JoinedTies
import Derived.KernelRfl
namespace Go.Proofs.Ytobdbmhphegdpaa
/- THE CELL 'sum', in the pinned program and in every row, IS THE sha256 OF THE DUMP (.gsa) THAT YtobdbmhphegdpaaProg.lean LOADS. Nothing in Lean hashes anything: it is a label: what it is worth is what the hold of that sum in a sandbox is worth. -/
noncomputable def Try.pinned : Pinned := { name := "ytobdbmhphegdpaa", sum := "270c5ea35f229c8cc50ed215202f11c55d2edf56b6fec7b79230c788a3c85792", checked := Try.checked }
namespace Rows
def none {H : Type} : Left H := { results := [], args := [] }

/-- 'laws.FnExactConstants': WHATEVER THE INPUT: true; the input reads as it did. -/
def fnExactConstantsSpec : ChangeSpec := { name := "fnExactConstants", fn := fun _ => fun
  | [] => { results := [.lit (.bool true)], args := [] }
  | _ => none }
def fnExactConstantsRow : OpenClaim := { program := "ytobdbmhphegdpaa", sum := "270c5ea35f229c8cc50ed215202f11c55d2edf56b6fec7b79230c788a3c85792", func := "loop.example/g00627/laws.FnExactConstants", spec := "fnExactConstants", apart := false }
def FnExactConstantsSaid : Prop := fnExactConstantsRow.holds Try.pinned (OpenSpec.ofChange fnExactConstantsSpec)

/-- ITS FALSE NEIGHBOUR: 'it returns false'. Refute it at one input. -/
def fnExactConstantsWrong : ChangeSpec := { name := "fnExactConstants", fn := fun _ => fun
  | [] => { results := [.lit (.bool false)], args := [] }
  | _ => none }
def FnExactConstantsWrongFalsely : Prop := fnExactConstantsRow.holds Try.pinned (OpenSpec.ofChange fnExactConstantsWrong)

/-- 'laws.FnExactAllFree': WHATEVER THE INPUT: true; the input reads as it did. -/
def fnExactAllFreeSpec : ChangeSpec := { name := "fnExactAllFree", fn := fun _ => fun
  | [] => { results := [.lit (.bool true)], args := [] }
  | _ => none }
def fnExactAllFreeRow : OpenClaim := { program := "ytobdbmhphegdpaa", sum := "270c5ea35f229c8cc50ed215202f11c55d2edf56b6fec7b79230c788a3c85792", func := "loop.example/g00627/laws.FnExactAllFree", spec := "fnExactAllFree", apart := false }
def FnExactAllFreeSaid : Prop := fnExactAllFreeRow.holds Try.pinned (OpenSpec.ofChange fnExactAllFreeSpec)

/-- ITS FALSE NEIGHBOUR: 'it returns false'. Refute it at one input. -/
def fnExactAllFreeWrong : ChangeSpec := { name := "fnExactAllFree", fn := fun _ => fun
  | [] => { results := [.lit (.bool false)], args := [] }
  | _ => none }
def FnExactAllFreeWrongFalsely : Prop := fnExactAllFreeRow.holds Try.pinned (OpenSpec.ofChange fnExactAllFreeWrong)

/-- 'laws.FnExactClassesOf': WHATEVER THE INPUT: true; the input reads as it did. -/
def fnExactClassesOfSpec : ChangeSpec := { name := "fnExactClassesOf", fn := fun _ => fun
  | [] => { results := [.lit (.bool true)], args := [] }
  | _ => none }
def fnExactClassesOfRow : OpenClaim := { program := "ytobdbmhphegdpaa", sum := "270c5ea35f229c8cc50ed215202f11c55d2edf56b6fec7b79230c788a3c85792", func := "loop.example/g00627/laws.FnExactClassesOf", spec := "fnExactClassesOf", apart := false }
def FnExactClassesOfSaid : Prop := fnExactClassesOfRow.holds Try.pinned (OpenSpec.ofChange fnExactClassesOfSpec)

/-- ITS FALSE NEIGHBOUR: 'it returns false'. Refute it at one input. -/
def fnExactClassesOfWrong : ChangeSpec := { name := "fnExactClassesOf", fn := fun _ => fun
  | [] => { results := [.lit (.bool false)], args := [] }
  | _ => none }
def FnExactClassesOfWrongFalsely : Prop := fnExactClassesOfRow.holds Try.pinned (OpenSpec.ofChange fnExactClassesOfWrong)

/-- 'laws.FnExactPagesFor': WHATEVER THE INPUT: true; the input reads as it did. -/
def fnExactPagesForSpec : ChangeSpec := { name := "fnExactPagesFor", fn := fun _ => fun
  | [d] => { results := [.lit (.bool true)], args := [d] }
  | _ => none }
def fnExactPagesForRow : OpenClaim := { program := "ytobdbmhphegdpaa", sum := "270c5ea35f229c8cc50ed215202f11c55d2edf56b6fec7b79230c788a3c85792", func := "loop.example/g00627/laws.FnExactPagesFor", spec := "fnExactPagesFor", apart := false }
def FnExactPagesForSaid : Prop := fnExactPagesForRow.holds Try.pinned (OpenSpec.ofChange fnExactPagesForSpec)

/-- ITS FALSE NEIGHBOUR: 'it returns false'. Refute it at one input. -/
def fnExactPagesForWrong : ChangeSpec := { name := "fnExactPagesFor", fn := fun _ => fun
  | [d] => { results := [.lit (.bool false)], args := [d] }
  | _ => none }
def FnExactPagesForWrongFalsely : Prop := fnExactPagesForRow.holds Try.pinned (OpenSpec.ofChange fnExactPagesForWrong)

/-- 'laws.FnExactSlotsIn': WHATEVER THE INPUT: true; the input reads as it did. -/
def fnExactSlotsInSpec : ChangeSpec := { name := "fnExactSlotsIn", fn := fun _ => fun
  | [d] => { results := [.lit (.bool true)], args := [d] }
  | _ => none }
def fnExactSlotsInRow : OpenClaim := { program := "ytobdbmhphegdpaa", sum := "270c5ea35f229c8cc50ed215202f11c55d2edf56b6fec7b79230c788a3c85792", func := "loop.example/g00627/laws.FnExactSlotsIn", spec := "fnExactSlotsIn", apart := false }
def FnExactSlotsInSaid : Prop := fnExactSlotsInRow.holds Try.pinned (OpenSpec.ofChange fnExactSlotsInSpec)

/-- ITS FALSE NEIGHBOUR: 'it returns false'. Refute it at one input. -/
def fnExactSlotsInWrong : ChangeSpec := { name := "fnExactSlotsIn", fn := fun _ => fun
  | [d] => { results := [.lit (.bool false)], args := [d] }
  | _ => none }
def FnExactSlotsInWrongFalsely : Prop := fnExactSlotsInRow.holds Try.pinned (OpenSpec.ofChange fnExactSlotsInWrong)

/-- 'laws.FnExactTailOf': WHATEVER THE INPUT: true; the input reads as it did. -/
def fnExactTailOfSpec : ChangeSpec := { name := "fnExactTailOf", fn := fun _ => fun
  | [d] => { results := [.lit (.bool true)], args := [d] }
  | _ => none }
def fnExactTailOfRow : OpenClaim := { program := "ytobdbmhphegdpaa", sum := "270c5ea35f229c8cc50ed215202f11c55d2edf56b6fec7b79230c788a3c85792", func := "loop.example/g00627/laws.FnExactTailOf", spec := "fnExactTailOf", apart := false }
def FnExactTailOfSaid : Prop := fnExactTailOfRow.holds Try.pinned (OpenSpec.ofChange fnExactTailOfSpec)

/-- ITS FALSE NEIGHBOUR: 'it returns false'. Refute it at one input. -/
def fnExactTailOfWrong : ChangeSpec := { name := "fnExactTailOf", fn := fun _ => fun
  | [d] => { results := [.lit (.bool false)], args := [d] }
  | _ => none }
def FnExactTailOfWrongFalsely : Prop := fnExactTailOfRow.holds Try.pinned (OpenSpec.ofChange fnExactTailOfWrong)

/- THE SECOND FORM. 'bulk': how many values and letters a reading holds, each counted each time it is reached (what is shared counts as often as it is met; a slice's spare places count too). A statement '..UptoSaid' is the law's where the arguments, and the package variables that the reading takes, are together of bulk at most 1048576: NARROWER than '..Said'. Prove '..Said' where nothing that the law and all that it calls make is longer than what came in: it says more and counts as full. Else prove '..UptoSaid'. A law counts once. -/
mutual
def uptoBulk {H : Type} : DataW H → Nat
  | .lit (.string bytes) => bytes.length + 1
  | .lit _ => 1
  | .nil => 1
  | .ptr d => uptoBulk d + 1
  | .slice elems spare => uptoBulkAll elems + uptoBulkAll spare + 1
  | .agg parts => uptoBulkAll parts + 1
  | .iface _ d => uptoBulk d + 1
  | .map entries => uptoBulkEntries entries + 1
  | .held _ => 1
def uptoBulkAll {H : Type} : List (DataW H) → Nat
  | [] => 0
  | d :: r => uptoBulk d + uptoBulkAll r
def uptoBulkEntries {H : Type} : List (Lit × DataW H) → Nat
  | [] => 0
  | x :: r => uptoBulkEntry x + uptoBulkEntries r
def uptoBulkEntry {H : Type} : Lit × DataW H → Nat
  | (.string bytes, d) => bytes.length + uptoBulk d + 1
  | (_, d) => uptoBulk d + 1
 end
def uptoSmall : (H : Type) → List (DataW H) → Bool := fun _ ds => decide (uptoBulkAll ds ≤ 1048576)
def OpenSpec.upto (s : _root_.Go.ChangeSpec) : _root_.Go.OpenSpec := { _root_.Go.OpenSpec.ofChange s with cond := some uptoSmall }

/-- 'laws.FnExactConstants', WHERE WHAT IT READS IS OF BULK AT MOST 1048576: true; the input reads as it did. -/
def fnExactConstantsUptoRow : OpenClaim := { program := "ytobdbmhphegdpaa", sum := "270c5ea35f229c8cc50ed215202f11c55d2edf56b6fec7b79230c788a3c85792", func := "loop.example/g00627/laws.FnExactConstants", spec := "fnExactConstants", apart := false, narrowed := true }
def FnExactConstantsUptoSaid : Prop := fnExactConstantsUptoRow.holds Try.pinned (OpenSpec.upto fnExactConstantsSpec)

/-- 'laws.FnExactAllFree', WHERE WHAT IT READS IS OF BULK AT MOST 1048576: true; the input reads as it did. -/
def fnExactAllFreeUptoRow : OpenClaim := { program := "ytobdbmhphegdpaa", sum := "270c5ea35f229c8cc50ed215202f11c55d2edf56b6fec7b79230c788a3c85792", func := "loop.example/g00627/laws.FnExactAllFree", spec := "fnExactAllFree", apart := false, narrowed := true }
def FnExactAllFreeUptoSaid : Prop := fnExactAllFreeUptoRow.holds Try.pinned (OpenSpec.upto fnExactAllFreeSpec)

/-- 'laws.FnExactClassesOf', WHERE WHAT IT READS IS OF BULK AT MOST 1048576: true; the input reads as it did. -/
def fnExactClassesOfUptoRow : OpenClaim := { program := "ytobdbmhphegdpaa", sum := "270c5ea35f229c8cc50ed215202f11c55d2edf56b6fec7b79230c788a3c85792", func := "loop.example/g00627/laws.FnExactClassesOf", spec := "fnExactClassesOf", apart := false, narrowed := true }
def FnExactClassesOfUptoSaid : Prop := fnExactClassesOfUptoRow.holds Try.pinned (OpenSpec.upto fnExactClassesOfSpec)

/-- 'laws.FnExactPagesFor', WHERE WHAT IT READS IS OF BULK AT MOST 1048576: true; the input reads as it did. -/
def fnExactPagesForUptoRow : OpenClaim := { program := "ytobdbmhphegdpaa", sum := "270c5ea35f229c8cc50ed215202f11c55d2edf56b6fec7b79230c788a3c85792", func := "loop.example/g00627/laws.FnExactPagesFor", spec := "fnExactPagesFor", apart := false, narrowed := true }
def FnExactPagesForUptoSaid : Prop := fnExactPagesForUptoRow.holds Try.pinned (OpenSpec.upto fnExactPagesForSpec)

/-- 'laws.FnExactSlotsIn', WHERE WHAT IT READS IS OF BULK AT MOST 1048576: true; the input reads as it did. -/
def fnExactSlotsInUptoRow : OpenClaim := { program := "ytobdbmhphegdpaa", sum := "270c5ea35f229c8cc50ed215202f11c55d2edf56b6fec7b79230c788a3c85792", func := "loop.example/g00627/laws.FnExactSlotsIn", spec := "fnExactSlotsIn", apart := false, narrowed := true }
def FnExactSlotsInUptoSaid : Prop := fnExactSlotsInUptoRow.holds Try.pinned (OpenSpec.upto fnExactSlotsInSpec)

/-- 'laws.FnExactTailOf', WHERE WHAT IT READS IS OF BULK AT MOST 1048576: true; the input reads as it did. -/
def fnExactTailOfUptoRow : OpenClaim := { program := "ytobdbmhphegdpaa", sum := "270c5ea35f229c8cc50ed215202f11c55d2edf56b6fec7b79230c788a3c85792", func := "loop.example/g00627/laws.FnExactTailOf", spec := "fnExactTailOf", apart := false, narrowed := true }
def FnExactTailOfUptoSaid : Prop := fnExactTailOfUptoRow.holds Try.pinned (OpenSpec.upto fnExactTailOfSpec)

end Rows
end Go.Proofs.Ytobdbmhphegdpaa
