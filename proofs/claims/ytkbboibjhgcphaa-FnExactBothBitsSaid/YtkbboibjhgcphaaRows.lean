/-
  No cell of these rows narrows 'for every input' (looked for: loops, veiled, ifaces, maps, wideKeys, modest, calm, conditions, laid).
  DERIVED. THE GIVEN ROWS OF THIS SEAT. 10 by the template 'for every input the law returns true; each argument reads behind the call as it read before'; 0 by the template 'total and deterministic' (their statements: YtkbboibjhgcphaaTotals.lean).
  GIVEN WITH THE SEED: the statements are not yours to turn. If you find one false, say at which input.
  Laid BY PROGRAM, IN A SANDBOX (cutbox-rows.mjs): the forced cells as the released guide's own fill.sh prints them over the translation abb48504fe2cf6c5… (all of the seat's roots in one cut). By AI agents, Wed Nov 11 2026. No macro, syntax, notation, axiom, sorry.
-/
import Derived.Test.YtkbboibjhgcphaaChecked
import GoSem.Claim
import GoSem.ClaimJoined
import GoSem.ClaimMapViews
import Derived.JoinedTies
import Derived.KernelRfl
namespace Go.Proofs.Ytkbboibjhgcphaa
/- THE CELL 'sum', in the pinned program and in every row, IS THE sha256 OF THE DUMP (.gsa) THAT YtkbboibjhgcphaaProg.lean LOADS. Nothing in Lean hashes anything: it is a label: what it is worth is what the hold of that sum in a sandbox is worth. -/
noncomputable def Try.pinned : Pinned := { name := "ytkbboibjhgcphaa", sum := "abb48504fe2cf6c592f4d22713fab9ee214cbe9af14e88da2033207fc043d1be", checked := Try.checked }
namespace Rows
def none {H : Type} : Left H := { results := [], args := [] }

/-- 'laws.FnExactNewBits': WHATEVER THE INPUT: true; the input reads as it did. -/
def fnExactNewBitsSpec : ChangeSpec := { name := "fnExactNewBits", fn := fun _ => fun
  | [d] => { results := [.lit (.bool true)], args := [d] }
  | _ => none }
def fnExactNewBitsRow : OpenClaim := { program := "ytkbboibjhgcphaa", sum := "abb48504fe2cf6c592f4d22713fab9ee214cbe9af14e88da2033207fc043d1be", func := "loop.example/g00627/laws.FnExactNewBits", spec := "fnExactNewBits", apart := false }
def FnExactNewBitsSaid : Prop := fnExactNewBitsRow.holds Try.pinned (OpenSpec.ofChange fnExactNewBitsSpec)

/-- ITS FALSE NEIGHBOUR: 'it returns false'. Refute it at one input. -/
def fnExactNewBitsWrong : ChangeSpec := { name := "fnExactNewBits", fn := fun _ => fun
  | [d] => { results := [.lit (.bool false)], args := [d] }
  | _ => none }
def FnExactNewBitsWrongFalsely : Prop := fnExactNewBitsRow.holds Try.pinned (OpenSpec.ofChange fnExactNewBitsWrong)

/-- 'laws.FnExactClassFor': WHATEVER THE INPUT: true; the input reads as it did. -/
def fnExactClassForSpec : ChangeSpec := { name := "fnExactClassFor", fn := fun _ => fun
  | [d] => { results := [.lit (.bool true)], args := [d] }
  | _ => none }
def fnExactClassForRow : OpenClaim := { program := "ytkbboibjhgcphaa", sum := "abb48504fe2cf6c592f4d22713fab9ee214cbe9af14e88da2033207fc043d1be", func := "loop.example/g00627/laws.FnExactClassFor", spec := "fnExactClassFor", apart := false }
def FnExactClassForSaid : Prop := fnExactClassForRow.holds Try.pinned (OpenSpec.ofChange fnExactClassForSpec)

/-- ITS FALSE NEIGHBOUR: 'it returns false'. Refute it at one input. -/
def fnExactClassForWrong : ChangeSpec := { name := "fnExactClassFor", fn := fun _ => fun
  | [d] => { results := [.lit (.bool false)], args := [d] }
  | _ => none }
def FnExactClassForWrongFalsely : Prop := fnExactClassForRow.holds Try.pinned (OpenSpec.ofChange fnExactClassForWrong)

/-- 'laws.FnExactWasteOf': WHATEVER THE INPUT: true; the input reads as it did. -/
def fnExactWasteOfSpec : ChangeSpec := { name := "fnExactWasteOf", fn := fun _ => fun
  | [d] => { results := [.lit (.bool true)], args := [d] }
  | _ => none }
def fnExactWasteOfRow : OpenClaim := { program := "ytkbboibjhgcphaa", sum := "abb48504fe2cf6c592f4d22713fab9ee214cbe9af14e88da2033207fc043d1be", func := "loop.example/g00627/laws.FnExactWasteOf", spec := "fnExactWasteOf", apart := false }
def FnExactWasteOfSaid : Prop := fnExactWasteOfRow.holds Try.pinned (OpenSpec.ofChange fnExactWasteOfSpec)

/-- ITS FALSE NEIGHBOUR: 'it returns false'. Refute it at one input. -/
def fnExactWasteOfWrong : ChangeSpec := { name := "fnExactWasteOf", fn := fun _ => fun
  | [d] => { results := [.lit (.bool false)], args := [d] }
  | _ => none }
def FnExactWasteOfWrongFalsely : Prop := fnExactWasteOfRow.holds Try.pinned (OpenSpec.ofChange fnExactWasteOfWrong)

/-- 'laws.FnExactGoodBits': WHATEVER THE INPUT: true; the input reads as it did. -/
def fnExactGoodBitsSpec : ChangeSpec := { name := "fnExactGoodBits", fn := fun _ => fun
  | [d] => { results := [.lit (.bool true)], args := [d] }
  | _ => none }
def fnExactGoodBitsRow : OpenClaim := { program := "ytkbboibjhgcphaa", sum := "abb48504fe2cf6c592f4d22713fab9ee214cbe9af14e88da2033207fc043d1be", func := "loop.example/g00627/laws.FnExactGoodBits", spec := "fnExactGoodBits", apart := false }
def FnExactGoodBitsSaid : Prop := fnExactGoodBitsRow.holds Try.pinned (OpenSpec.ofChange fnExactGoodBitsSpec)

/-- ITS FALSE NEIGHBOUR: 'it returns false'. Refute it at one input. -/
def fnExactGoodBitsWrong : ChangeSpec := { name := "fnExactGoodBits", fn := fun _ => fun
  | [d] => { results := [.lit (.bool false)], args := [d] }
  | _ => none }
def FnExactGoodBitsWrongFalsely : Prop := fnExactGoodBitsRow.holds Try.pinned (OpenSpec.ofChange fnExactGoodBitsWrong)

/-- 'laws.FnSlots': WHATEVER THE INPUT: true; the input reads as it did. -/
def fnSlotsSpec : ChangeSpec := { name := "fnSlots", fn := fun _ => fun
  | [d1, d2] => { results := [.lit (.bool true)], args := [d1, d2] }
  | _ => none }
def fnSlotsRow : OpenClaim := { program := "ytkbboibjhgcphaa", sum := "abb48504fe2cf6c592f4d22713fab9ee214cbe9af14e88da2033207fc043d1be", func := "loop.example/g00627/laws.FnSlots", spec := "fnSlots", apart := false }
def FnSlotsSaid : Prop := fnSlotsRow.holds Try.pinned (OpenSpec.ofChange fnSlotsSpec)

/-- ITS FALSE NEIGHBOUR: 'it returns false'. Refute it at one input. -/
def fnSlotsWrong : ChangeSpec := { name := "fnSlots", fn := fun _ => fun
  | [d1, d2] => { results := [.lit (.bool false)], args := [d1, d2] }
  | _ => none }
def FnSlotsWrongFalsely : Prop := fnSlotsRow.holds Try.pinned (OpenSpec.ofChange fnSlotsWrong)

/-- 'laws.FnExactSumWaste': WHATEVER THE INPUT: true; the input reads as it did. -/
def fnExactSumWasteSpec : ChangeSpec := { name := "fnExactSumWaste", fn := fun _ => fun
  | [d] => { results := [.lit (.bool true)], args := [d] }
  | _ => none }
def fnExactSumWasteRow : OpenClaim := { program := "ytkbboibjhgcphaa", sum := "abb48504fe2cf6c592f4d22713fab9ee214cbe9af14e88da2033207fc043d1be", func := "loop.example/g00627/laws.FnExactSumWaste", spec := "fnExactSumWaste", apart := false }
def FnExactSumWasteSaid : Prop := fnExactSumWasteRow.holds Try.pinned (OpenSpec.ofChange fnExactSumWasteSpec)

/-- ITS FALSE NEIGHBOUR: 'it returns false'. Refute it at one input. -/
def fnExactSumWasteWrong : ChangeSpec := { name := "fnExactSumWaste", fn := fun _ => fun
  | [d] => { results := [.lit (.bool false)], args := [d] }
  | _ => none }
def FnExactSumWasteWrongFalsely : Prop := fnExactSumWasteRow.holds Try.pinned (OpenSpec.ofChange fnExactSumWasteWrong)

/-- 'laws.FnExactBothBits': WHATEVER THE INPUT: true; the input reads as it did. -/
def fnExactBothBitsSpec : ChangeSpec := { name := "fnExactBothBits", fn := fun _ => fun
  | [d1, d2] => { results := [.lit (.bool true)], args := [d1, d2] }
  | _ => none }
def fnExactBothBitsRow : OpenClaim := { program := "ytkbboibjhgcphaa", sum := "abb48504fe2cf6c592f4d22713fab9ee214cbe9af14e88da2033207fc043d1be", func := "loop.example/g00627/laws.FnExactBothBits", spec := "fnExactBothBits", apart := false }
def FnExactBothBitsSaid : Prop := fnExactBothBitsRow.holds Try.pinned (OpenSpec.ofChange fnExactBothBitsSpec)

/-- ITS FALSE NEIGHBOUR: 'it returns false'. Refute it at one input. -/
def fnExactBothBitsWrong : ChangeSpec := { name := "fnExactBothBits", fn := fun _ => fun
  | [d1, d2] => { results := [.lit (.bool false)], args := [d1, d2] }
  | _ => none }
def FnExactBothBitsWrongFalsely : Prop := fnExactBothBitsRow.holds Try.pinned (OpenSpec.ofChange fnExactBothBitsWrong)

/-- 'laws.FnExactWithoutBits': WHATEVER THE INPUT: true; the input reads as it did. -/
def fnExactWithoutBitsSpec : ChangeSpec := { name := "fnExactWithoutBits", fn := fun _ => fun
  | [d1, d2] => { results := [.lit (.bool true)], args := [d1, d2] }
  | _ => none }
def fnExactWithoutBitsRow : OpenClaim := { program := "ytkbboibjhgcphaa", sum := "abb48504fe2cf6c592f4d22713fab9ee214cbe9af14e88da2033207fc043d1be", func := "loop.example/g00627/laws.FnExactWithoutBits", spec := "fnExactWithoutBits", apart := false }
def FnExactWithoutBitsSaid : Prop := fnExactWithoutBitsRow.holds Try.pinned (OpenSpec.ofChange fnExactWithoutBitsSpec)

/-- ITS FALSE NEIGHBOUR: 'it returns false'. Refute it at one input. -/
def fnExactWithoutBitsWrong : ChangeSpec := { name := "fnExactWithoutBits", fn := fun _ => fun
  | [d1, d2] => { results := [.lit (.bool false)], args := [d1, d2] }
  | _ => none }
def FnExactWithoutBitsWrongFalsely : Prop := fnExactWithoutBitsRow.holds Try.pinned (OpenSpec.ofChange fnExactWithoutBitsWrong)

/-- 'laws.FnExactSetRun': WHATEVER THE INPUT: true; the input reads as it did. -/
def fnExactSetRunSpec : ChangeSpec := { name := "fnExactSetRun", fn := fun _ => fun
  | [d1, d2, d3, d4] => { results := [.lit (.bool true)], args := [d1, d2, d3, d4] }
  | _ => none }
def fnExactSetRunRow : OpenClaim := { program := "ytkbboibjhgcphaa", sum := "abb48504fe2cf6c592f4d22713fab9ee214cbe9af14e88da2033207fc043d1be", func := "loop.example/g00627/laws.FnExactSetRun", spec := "fnExactSetRun", apart := false }
def FnExactSetRunSaid : Prop := fnExactSetRunRow.holds Try.pinned (OpenSpec.ofChange fnExactSetRunSpec)

/-- ITS FALSE NEIGHBOUR: 'it returns false'. Refute it at one input. -/
def fnExactSetRunWrong : ChangeSpec := { name := "fnExactSetRun", fn := fun _ => fun
  | [d1, d2, d3, d4] => { results := [.lit (.bool false)], args := [d1, d2, d3, d4] }
  | _ => none }
def FnExactSetRunWrongFalsely : Prop := fnExactSetRunRow.holds Try.pinned (OpenSpec.ofChange fnExactSetRunWrong)

/-- 'laws.FnSizes': WHATEVER THE INPUT: true; the input reads as it did. -/
def fnSizesSpec : ChangeSpec := { name := "fnSizes", fn := fun _ => fun
  | [d1, d2] => { results := [.lit (.bool true)], args := [d1, d2] }
  | _ => none }
def fnSizesRow : OpenClaim := { program := "ytkbboibjhgcphaa", sum := "abb48504fe2cf6c592f4d22713fab9ee214cbe9af14e88da2033207fc043d1be", func := "loop.example/g00627/laws.FnSizes", spec := "fnSizes", apart := false }
def FnSizesSaid : Prop := fnSizesRow.holds Try.pinned (OpenSpec.ofChange fnSizesSpec)

/-- ITS FALSE NEIGHBOUR: 'it returns false'. Refute it at one input. -/
def fnSizesWrong : ChangeSpec := { name := "fnSizes", fn := fun _ => fun
  | [d1, d2] => { results := [.lit (.bool false)], args := [d1, d2] }
  | _ => none }
def FnSizesWrongFalsely : Prop := fnSizesRow.holds Try.pinned (OpenSpec.ofChange fnSizesWrong)

/- THE SECOND FORM. 'bulk': how many values and letters a reading holds, each counted each time it is reached (what is shared counts as often as it is met; a slice's spare places count too). A statement '..UptoSaid' is the law's where the arguments, and the package variables that the reading takes, are together of bulk at most 1048576: NARROWER than '..Said'. Prove '..Said' where nothing that the law and all that it calls make is longer than what came in: it says more and counts as full. Else prove '..UptoSaid'. A law counts once. -/
mutual
def uptoBulk {H : Type} : DataW H → Nat
  | .lit (.string bytes) => bytes.length + 1
  | .lit _ => 1
  | .nil => 1
  | .ptr d => uptoBulk d + 1
  | .slice elems spare => uptoBulkAll elems + uptoBulkAll spare + 1
  | .agg parts => uptoBulkAll parts + 1
  | .iface _ d => uptoBulk d + 1
  | .map entries => uptoBulkEntries entries + 1
  | .held _ => 1
def uptoBulkAll {H : Type} : List (DataW H) → Nat
  | [] => 0
  | d :: r => uptoBulk d + uptoBulkAll r
def uptoBulkEntries {H : Type} : List (Lit × DataW H) → Nat
  | [] => 0
  | x :: r => uptoBulkEntry x + uptoBulkEntries r
def uptoBulkEntry {H : Type} : Lit × DataW H → Nat
  | (.string bytes, d) => bytes.length + uptoBulk d + 1
  | (_, d) => uptoBulk d + 1
 end
def uptoSmall : (H : Type) → List (DataW H) → Bool := fun _ ds => decide (uptoBulkAll ds ≤ 1048576)
def OpenSpec.upto (s : _root_.Go.ChangeSpec) : _root_.Go.OpenSpec := { _root_.Go.OpenSpec.ofChange s with cond := some uptoSmall }

/-- 'laws.FnExactNewBits', WHERE WHAT IT READS IS OF BULK AT MOST 1048576: true; the input reads as it did. -/
def fnExactNewBitsUptoRow : OpenClaim := { program := "ytkbboibjhgcphaa", sum := "abb48504fe2cf6c592f4d22713fab9ee214cbe9af14e88da2033207fc043d1be", func := "loop.example/g00627/laws.FnExactNewBits", spec := "fnExactNewBits", apart := false, narrowed := true }
def FnExactNewBitsUptoSaid : Prop := fnExactNewBitsUptoRow.holds Try.pinned (OpenSpec.upto fnExactNewBitsSpec)

/-- 'laws.FnExactClassFor', WHERE WHAT IT READS IS OF BULK AT MOST 1048576: true; the input reads as it did. -/
def fnExactClassForUptoRow : OpenClaim := { program := "ytkbboibjhgcphaa", sum := "abb48504fe2cf6c592f4d22713fab9ee214cbe9af14e88da2033207fc043d1be", func := "loop.example/g00627/laws.FnExactClassFor", spec := "fnExactClassFor", apart := false, narrowed := true }
def FnExactClassForUptoSaid : Prop := fnExactClassForUptoRow.holds Try.pinned (OpenSpec.upto fnExactClassForSpec)

/-- 'laws.FnExactWasteOf', WHERE WHAT IT READS IS OF BULK AT MOST 1048576: true; the input reads as it did. -/
def fnExactWasteOfUptoRow : OpenClaim := { program := "ytkbboibjhgcphaa", sum := "abb48504fe2cf6c592f4d22713fab9ee214cbe9af14e88da2033207fc043d1be", func := "loop.example/g00627/laws.FnExactWasteOf", spec := "fnExactWasteOf", apart := false, narrowed := true }
def FnExactWasteOfUptoSaid : Prop := fnExactWasteOfUptoRow.holds Try.pinned (OpenSpec.upto fnExactWasteOfSpec)

/-- 'laws.FnExactGoodBits', WHERE WHAT IT READS IS OF BULK AT MOST 1048576: true; the input reads as it did. -/
def fnExactGoodBitsUptoRow : OpenClaim := { program := "ytkbboibjhgcphaa", sum := "abb48504fe2cf6c592f4d22713fab9ee214cbe9af14e88da2033207fc043d1be", func := "loop.example/g00627/laws.FnExactGoodBits", spec := "fnExactGoodBits", apart := false, narrowed := true }
def FnExactGoodBitsUptoSaid : Prop := fnExactGoodBitsUptoRow.holds Try.pinned (OpenSpec.upto fnExactGoodBitsSpec)

/-- 'laws.FnSlots', WHERE WHAT IT READS IS OF BULK AT MOST 1048576: true; the input reads as it did. -/
def fnSlotsUptoRow : OpenClaim := { program := "ytkbboibjhgcphaa", sum := "abb48504fe2cf6c592f4d22713fab9ee214cbe9af14e88da2033207fc043d1be", func := "loop.example/g00627/laws.FnSlots", spec := "fnSlots", apart := false, narrowed := true }
def FnSlotsUptoSaid : Prop := fnSlotsUptoRow.holds Try.pinned (OpenSpec.upto fnSlotsSpec)

/-- 'laws.FnExactSumWaste', WHERE WHAT IT READS IS OF BULK AT MOST 1048576: true; the input reads as it did. -/
def fnExactSumWasteUptoRow : OpenClaim := { program := "ytkbboibjhgcphaa", sum := "abb48504fe2cf6c592f4d22713fab9ee214cbe9af14e88da2033207fc043d1be", func := "loop.example/g00627/laws.FnExactSumWaste", spec := "fnExactSumWaste", apart := false, narrowed := true }
def FnExactSumWasteUptoSaid : Prop := fnExactSumWasteUptoRow.holds Try.pinned (OpenSpec.upto fnExactSumWasteSpec)

/-- 'laws.FnExactBothBits', WHERE WHAT IT READS IS OF BULK AT MOST 1048576: true; the input reads as it did. -/
def fnExactBothBitsUptoRow : OpenClaim := { program := "ytkbboibjhgcphaa", sum := "abb48504fe2cf6c592f4d22713fab9ee214cbe9af14e88da2033207fc043d1be", func := "loop.example/g00627/laws.FnExactBothBits", spec := "fnExactBothBits", apart := false, narrowed := true }
def FnExactBothBitsUptoSaid : Prop := fnExactBothBitsUptoRow.holds Try.pinned (OpenSpec.upto fnExactBothBitsSpec)

/-- 'laws.FnExactWithoutBits', WHERE WHAT IT READS IS OF BULK AT MOST 1048576: true; the input reads as it did. -/
def fnExactWithoutBitsUptoRow : OpenClaim := { program := "ytkbboibjhgcphaa", sum := "abb48504fe2cf6c592f4d22713fab9ee214cbe9af14e88da2033207fc043d1be", func := "loop.example/g00627/laws.FnExactWithoutBits", spec := "fnExactWithoutBits", apart := false, narrowed := true }
def FnExactWithoutBitsUptoSaid : Prop := fnExactWithoutBitsUptoRow.holds Try.pinned (OpenSpec.upto fnExactWithoutBitsSpec)

/-- 'laws.FnExactSetRun', WHERE WHAT IT READS IS OF BULK AT MOST 1048576: true; the input reads as it did. -/
def fnExactSetRunUptoRow : OpenClaim := { program := "ytkbboibjhgcphaa", sum := "abb48504fe2cf6c592f4d22713fab9ee214cbe9af14e88da2033207fc043d1be", func := "loop.example/g00627/laws.FnExactSetRun", spec := "fnExactSetRun", apart := false, narrowed := true }
def FnExactSetRunUptoSaid : Prop := fnExactSetRunUptoRow.holds Try.pinned (OpenSpec.upto fnExactSetRunSpec)

/-- 'laws.FnSizes', WHERE WHAT IT READS IS OF BULK AT MOST 1048576: true; the input reads as it did. -/
def fnSizesUptoRow : OpenClaim := { program := "ytkbboibjhgcphaa", sum := "abb48504fe2cf6c592f4d22713fab9ee214cbe9af14e88da2033207fc043d1be", func := "loop.example/g00627/laws.FnSizes", spec := "fnSizes", apart := false, narrowed := true }
def FnSizesUptoSaid : Prop := fnSizesUptoRow.holds Try.pinned (OpenSpec.upto fnSizesSpec)

end Rows
end Go.Proofs.Ytkbboibjhgcphaa
