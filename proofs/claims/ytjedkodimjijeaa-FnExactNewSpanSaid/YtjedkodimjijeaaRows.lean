/-
  No cell of these rows narrows 'for every input' (looked for: loops, veiled, ifaces, maps, wideKeys, modest, calm, conditions, laid).
  DERIVED. THE GIVEN ROWS OF THIS SEAT. 11 by the template 'for every input the law returns true; each argument reads behind the call as it read before'; 0 by the template 'total and deterministic' (their statements: YtjedkodimjijeaaTotals.lean).
  GIVEN WITH THE SEED: the statements are not yours to turn. If you find one false, say at which input.
  Laid BY PROGRAM, IN A SANDBOX (cutbox-rows.mjs): the forced cells as the released guide's own fill.sh prints them over the translation 822549aed737d3c3… (all of the seat's roots in one cut). By AI agents, Wed Nov 11 2026. No macro, syntax, notation, axiom, sorry.
-/
import Derived.Test.YtjedkodimjijeaaChecked
import GoSem.Claim
import GoSem.ClaimJoined
import GoSem.ClaimMapViews
import Derived.JoinedTies
import Derived.KernelRfl
namespace Go.Proofs.Ytjedkodimjijeaa
/- THE CELL 'sum', in the pinned program and in every row, IS THE sha256 OF THE DUMP (.gsa) THAT YtjedkodimjijeaaProg.lean LOADS. Nothing in Lean hashes anything: it is a label: what it is worth is what the hold of that sum in a sandbox is worth. -/
noncomputable def Try.pinned : Pinned := { name := "ytjedkodimjijeaa", sum := "822549aed737d3c3f9c883a44f52b1cbde70fa08775525e0e6e44f9091997508", checked := Try.checked }
namespace Rows
def none {H : Type} : Left H := { results := [], args := [] }

/-- 'laws.FnExactGoodRuns': WHATEVER THE INPUT: true; the input reads as it did. -/
def fnExactGoodRunsSpec : ChangeSpec := { name := "fnExactGoodRuns", fn := fun _ => fun
  | [d] => { results := [.lit (.bool true)], args := [d] }
  | _ => none }
def fnExactGoodRunsRow : OpenClaim := { program := "ytjedkodimjijeaa", sum := "822549aed737d3c3f9c883a44f52b1cbde70fa08775525e0e6e44f9091997508", func := "loop.example/g00627/laws.FnExactGoodRuns", spec := "fnExactGoodRuns", apart := false }
def FnExactGoodRunsSaid : Prop := fnExactGoodRunsRow.holds Try.pinned (OpenSpec.ofChange fnExactGoodRunsSpec)

/-- ITS FALSE NEIGHBOUR: 'it returns false'. Refute it at one input. -/
def fnExactGoodRunsWrong : ChangeSpec := { name := "fnExactGoodRuns", fn := fun _ => fun
  | [d] => { results := [.lit (.bool false)], args := [d] }
  | _ => none }
def FnExactGoodRunsWrongFalsely : Prop := fnExactGoodRunsRow.holds Try.pinned (OpenSpec.ofChange fnExactGoodRunsWrong)

/-- 'laws.FnExactFreeIn': WHATEVER THE INPUT: true; the input reads as it did. -/
def fnExactFreeInSpec : ChangeSpec := { name := "fnExactFreeIn", fn := fun _ => fun
  | [d] => { results := [.lit (.bool true)], args := [d] }
  | _ => none }
def fnExactFreeInRow : OpenClaim := { program := "ytjedkodimjijeaa", sum := "822549aed737d3c3f9c883a44f52b1cbde70fa08775525e0e6e44f9091997508", func := "loop.example/g00627/laws.FnExactFreeIn", spec := "fnExactFreeIn", apart := false }
def FnExactFreeInSaid : Prop := fnExactFreeInRow.holds Try.pinned (OpenSpec.ofChange fnExactFreeInSpec)

/-- ITS FALSE NEIGHBOUR: 'it returns false'. Refute it at one input. -/
def fnExactFreeInWrong : ChangeSpec := { name := "fnExactFreeIn", fn := fun _ => fun
  | [d] => { results := [.lit (.bool false)], args := [d] }
  | _ => none }
def FnExactFreeInWrongFalsely : Prop := fnExactFreeInRow.holds Try.pinned (OpenSpec.ofChange fnExactFreeInWrong)

/-- 'laws.FnExactLongestIn': WHATEVER THE INPUT: true; the input reads as it did. -/
def fnExactLongestInSpec : ChangeSpec := { name := "fnExactLongestIn", fn := fun _ => fun
  | [d] => { results := [.lit (.bool true)], args := [d] }
  | _ => none }
def fnExactLongestInRow : OpenClaim := { program := "ytjedkodimjijeaa", sum := "822549aed737d3c3f9c883a44f52b1cbde70fa08775525e0e6e44f9091997508", func := "loop.example/g00627/laws.FnExactLongestIn", spec := "fnExactLongestIn", apart := false }
def FnExactLongestInSaid : Prop := fnExactLongestInRow.holds Try.pinned (OpenSpec.ofChange fnExactLongestInSpec)

/-- ITS FALSE NEIGHBOUR: 'it returns false'. Refute it at one input. -/
def fnExactLongestInWrong : ChangeSpec := { name := "fnExactLongestIn", fn := fun _ => fun
  | [d] => { results := [.lit (.bool false)], args := [d] }
  | _ => none }
def FnExactLongestInWrongFalsely : Prop := fnExactLongestInRow.holds Try.pinned (OpenSpec.ofChange fnExactLongestInWrong)

/-- 'laws.FnExactTakeRun': WHATEVER THE INPUT: true; the input reads as it did. -/
def fnExactTakeRunSpec : ChangeSpec := { name := "fnExactTakeRun", fn := fun _ => fun
  | [d1, d2] => { results := [.lit (.bool true)], args := [d1, d2] }
  | _ => none }
def fnExactTakeRunRow : OpenClaim := { program := "ytjedkodimjijeaa", sum := "822549aed737d3c3f9c883a44f52b1cbde70fa08775525e0e6e44f9091997508", func := "loop.example/g00627/laws.FnExactTakeRun", spec := "fnExactTakeRun", apart := false }
def FnExactTakeRunSaid : Prop := fnExactTakeRunRow.holds Try.pinned (OpenSpec.ofChange fnExactTakeRunSpec)

/-- ITS FALSE NEIGHBOUR: 'it returns false'. Refute it at one input. -/
def fnExactTakeRunWrong : ChangeSpec := { name := "fnExactTakeRun", fn := fun _ => fun
  | [d1, d2] => { results := [.lit (.bool false)], args := [d1, d2] }
  | _ => none }
def FnExactTakeRunWrongFalsely : Prop := fnExactTakeRunRow.holds Try.pinned (OpenSpec.ofChange fnExactTakeRunWrong)

/-- 'laws.FnExactGiveRun': WHATEVER THE INPUT: true; the input reads as it did. -/
def fnExactGiveRunSpec : ChangeSpec := { name := "fnExactGiveRun", fn := fun _ => fun
  | [d1, d2] => { results := [.lit (.bool true)], args := [d1, d2] }
  | _ => none }
def fnExactGiveRunRow : OpenClaim := { program := "ytjedkodimjijeaa", sum := "822549aed737d3c3f9c883a44f52b1cbde70fa08775525e0e6e44f9091997508", func := "loop.example/g00627/laws.FnExactGiveRun", spec := "fnExactGiveRun", inPlace := ["slices.overlaps[loop.example/g00627/impl.Run]"], apart := false }
def FnExactGiveRunSaid : Prop := fnExactGiveRunRow.holds Try.pinned (OpenSpec.ofChange fnExactGiveRunSpec)

/-- ITS FALSE NEIGHBOUR: 'it returns false'. Refute it at one input. -/
def fnExactGiveRunWrong : ChangeSpec := { name := "fnExactGiveRun", fn := fun _ => fun
  | [d1, d2] => { results := [.lit (.bool false)], args := [d1, d2] }
  | _ => none }
def FnExactGiveRunWrongFalsely : Prop := fnExactGiveRunRow.holds Try.pinned (OpenSpec.ofChange fnExactGiveRunWrong)

/-- 'laws.FnExactPlayRuns': WHATEVER THE INPUT: true; the input reads as it did. -/
def fnExactPlayRunsSpec : ChangeSpec := { name := "fnExactPlayRuns", fn := fun _ => fun
  | [d] => { results := [.lit (.bool true)], args := [d] }
  | _ => none }
def fnExactPlayRunsRow : OpenClaim := { program := "ytjedkodimjijeaa", sum := "822549aed737d3c3f9c883a44f52b1cbde70fa08775525e0e6e44f9091997508", func := "loop.example/g00627/laws.FnExactPlayRuns", spec := "fnExactPlayRuns", inPlace := ["slices.overlaps[loop.example/g00627/impl.Run]"], apart := false }
def FnExactPlayRunsSaid : Prop := fnExactPlayRunsRow.holds Try.pinned (OpenSpec.ofChange fnExactPlayRunsSpec)

/-- ITS FALSE NEIGHBOUR: 'it returns false'. Refute it at one input. -/
def fnExactPlayRunsWrong : ChangeSpec := { name := "fnExactPlayRuns", fn := fun _ => fun
  | [d] => { results := [.lit (.bool false)], args := [d] }
  | _ => none }
def FnExactPlayRunsWrongFalsely : Prop := fnExactPlayRunsRow.holds Try.pinned (OpenSpec.ofChange fnExactPlayRunsWrong)

/-- 'laws.FnRuns': WHATEVER THE INPUT: true; the input reads as it did. -/
def fnRunsSpec : ChangeSpec := { name := "fnRuns", fn := fun _ => fun
  | [d1, d2] => { results := [.lit (.bool true)], args := [d1, d2] }
  | _ => none }
def fnRunsRow : OpenClaim := { program := "ytjedkodimjijeaa", sum := "822549aed737d3c3f9c883a44f52b1cbde70fa08775525e0e6e44f9091997508", func := "loop.example/g00627/laws.FnRuns", spec := "fnRuns", inPlace := ["slices.overlaps[loop.example/g00627/impl.Run]"], apart := false }
def FnRunsSaid : Prop := fnRunsRow.holds Try.pinned (OpenSpec.ofChange fnRunsSpec)

/-- ITS FALSE NEIGHBOUR: 'it returns false'. Refute it at one input. -/
def fnRunsWrong : ChangeSpec := { name := "fnRuns", fn := fun _ => fun
  | [d1, d2] => { results := [.lit (.bool false)], args := [d1, d2] }
  | _ => none }
def FnRunsWrongFalsely : Prop := fnRunsRow.holds Try.pinned (OpenSpec.ofChange fnRunsWrong)

/-- 'laws.FnPlayed': WHATEVER THE INPUT: true; the input reads as it did. -/
def fnPlayedSpec : ChangeSpec := { name := "fnPlayed", fn := fun _ => fun
  | [d1, d2] => { results := [.lit (.bool true)], args := [d1, d2] }
  | _ => none }
def fnPlayedRow : OpenClaim := { program := "ytjedkodimjijeaa", sum := "822549aed737d3c3f9c883a44f52b1cbde70fa08775525e0e6e44f9091997508", func := "loop.example/g00627/laws.FnPlayed", spec := "fnPlayed", inPlace := ["slices.overlaps[loop.example/g00627/impl.Run]"], apart := false }
def FnPlayedSaid : Prop := fnPlayedRow.holds Try.pinned (OpenSpec.ofChange fnPlayedSpec)

/-- ITS FALSE NEIGHBOUR: 'it returns false'. Refute it at one input. -/
def fnPlayedWrong : ChangeSpec := { name := "fnPlayed", fn := fun _ => fun
  | [d1, d2] => { results := [.lit (.bool false)], args := [d1, d2] }
  | _ => none }
def FnPlayedWrongFalsely : Prop := fnPlayedRow.holds Try.pinned (OpenSpec.ofChange fnPlayedWrong)

/-- 'laws.FnExactGoodSpan': WHATEVER THE INPUT: true; the input reads as it did. -/
def fnExactGoodSpanSpec : ChangeSpec := { name := "fnExactGoodSpan", fn := fun _ => fun
  | [d] => { results := [.lit (.bool true)], args := [d] }
  | _ => none }
def fnExactGoodSpanRow : OpenClaim := { program := "ytjedkodimjijeaa", sum := "822549aed737d3c3f9c883a44f52b1cbde70fa08775525e0e6e44f9091997508", func := "loop.example/g00627/laws.FnExactGoodSpan", spec := "fnExactGoodSpan", apart := false }
def FnExactGoodSpanSaid : Prop := fnExactGoodSpanRow.holds Try.pinned (OpenSpec.ofChange fnExactGoodSpanSpec)

/-- ITS FALSE NEIGHBOUR: 'it returns false'. Refute it at one input. -/
def fnExactGoodSpanWrong : ChangeSpec := { name := "fnExactGoodSpan", fn := fun _ => fun
  | [d] => { results := [.lit (.bool false)], args := [d] }
  | _ => none }
def FnExactGoodSpanWrongFalsely : Prop := fnExactGoodSpanRow.holds Try.pinned (OpenSpec.ofChange fnExactGoodSpanWrong)

/-- 'laws.FnExactNewSpan': WHATEVER THE INPUT: true; the input reads as it did. -/
def fnExactNewSpanSpec : ChangeSpec := { name := "fnExactNewSpan", fn := fun _ => fun
  | [d1, d2] => { results := [.lit (.bool true)], args := [d1, d2] }
  | _ => none }
def fnExactNewSpanRow : OpenClaim := { program := "ytjedkodimjijeaa", sum := "822549aed737d3c3f9c883a44f52b1cbde70fa08775525e0e6e44f9091997508", func := "loop.example/g00627/laws.FnExactNewSpan", spec := "fnExactNewSpan", apart := false }
def FnExactNewSpanSaid : Prop := fnExactNewSpanRow.holds Try.pinned (OpenSpec.ofChange fnExactNewSpanSpec)

/-- ITS FALSE NEIGHBOUR: 'it returns false'. Refute it at one input. -/
def fnExactNewSpanWrong : ChangeSpec := { name := "fnExactNewSpan", fn := fun _ => fun
  | [d1, d2] => { results := [.lit (.bool false)], args := [d1, d2] }
  | _ => none }
def FnExactNewSpanWrongFalsely : Prop := fnExactNewSpanRow.holds Try.pinned (OpenSpec.ofChange fnExactNewSpanWrong)

/-- 'laws.FnExactWordOf': WHATEVER THE INPUT: true; the input reads as it did. -/
def fnExactWordOfSpec : ChangeSpec := { name := "fnExactWordOf", fn := fun _ => fun
  | [d1, d2] => { results := [.lit (.bool true)], args := [d1, d2] }
  | _ => none }
def fnExactWordOfRow : OpenClaim := { program := "ytjedkodimjijeaa", sum := "822549aed737d3c3f9c883a44f52b1cbde70fa08775525e0e6e44f9091997508", func := "loop.example/g00627/laws.FnExactWordOf", spec := "fnExactWordOf", apart := false }
def FnExactWordOfSaid : Prop := fnExactWordOfRow.holds Try.pinned (OpenSpec.ofChange fnExactWordOfSpec)

/-- ITS FALSE NEIGHBOUR: 'it returns false'. Refute it at one input. -/
def fnExactWordOfWrong : ChangeSpec := { name := "fnExactWordOf", fn := fun _ => fun
  | [d1, d2] => { results := [.lit (.bool false)], args := [d1, d2] }
  | _ => none }
def FnExactWordOfWrongFalsely : Prop := fnExactWordOfRow.holds Try.pinned (OpenSpec.ofChange fnExactWordOfWrong)

/- THE SECOND FORM. 'bulk': how many values and letters a reading holds, each counted each time it is reached (what is shared counts as often as it is met; a slice's spare places count too). A statement '..UptoSaid' is the law's where the arguments, and the package variables that the reading takes, are together of bulk at most 1048576: NARROWER than '..Said'. Prove '..Said' where nothing that the law and all that it calls make is longer than what came in: it says more and counts as full. Else prove '..UptoSaid'. A law counts once. -/
mutual
def uptoBulk {H : Type} : DataW H → Nat
  | .lit (.string bytes) => bytes.length + 1
  | .lit _ => 1
  | .nil => 1
  | .ptr d => uptoBulk d + 1
  | .slice elems spare => uptoBulkAll elems + uptoBulkAll spare + 1
  | .agg parts => uptoBulkAll parts + 1
  | .iface _ d => uptoBulk d + 1
  | .map entries => uptoBulkEntries entries + 1
  | .held _ => 1
def uptoBulkAll {H : Type} : List (DataW H) → Nat
  | [] => 0
  | d :: r => uptoBulk d + uptoBulkAll r
def uptoBulkEntries {H : Type} : List (Lit × DataW H) → Nat
  | [] => 0
  | x :: r => uptoBulkEntry x + uptoBulkEntries r
def uptoBulkEntry {H : Type} : Lit × DataW H → Nat
  | (.string bytes, d) => bytes.length + uptoBulk d + 1
  | (_, d) => uptoBulk d + 1
 end
def uptoSmall : (H : Type) → List (DataW H) → Bool := fun _ ds => decide (uptoBulkAll ds ≤ 1048576)
def OpenSpec.upto (s : _root_.Go.ChangeSpec) : _root_.Go.OpenSpec := { _root_.Go.OpenSpec.ofChange s with cond := some uptoSmall }

/-- 'laws.FnExactGoodRuns', WHERE WHAT IT READS IS OF BULK AT MOST 1048576: true; the input reads as it did. -/
def fnExactGoodRunsUptoRow : OpenClaim := { program := "ytjedkodimjijeaa", sum := "822549aed737d3c3f9c883a44f52b1cbde70fa08775525e0e6e44f9091997508", func := "loop.example/g00627/laws.FnExactGoodRuns", spec := "fnExactGoodRuns", apart := false, narrowed := true }
def FnExactGoodRunsUptoSaid : Prop := fnExactGoodRunsUptoRow.holds Try.pinned (OpenSpec.upto fnExactGoodRunsSpec)

/-- 'laws.FnExactFreeIn', WHERE WHAT IT READS IS OF BULK AT MOST 1048576: true; the input reads as it did. -/
def fnExactFreeInUptoRow : OpenClaim := { program := "ytjedkodimjijeaa", sum := "822549aed737d3c3f9c883a44f52b1cbde70fa08775525e0e6e44f9091997508", func := "loop.example/g00627/laws.FnExactFreeIn", spec := "fnExactFreeIn", apart := false, narrowed := true }
def FnExactFreeInUptoSaid : Prop := fnExactFreeInUptoRow.holds Try.pinned (OpenSpec.upto fnExactFreeInSpec)

/-- 'laws.FnExactLongestIn', WHERE WHAT IT READS IS OF BULK AT MOST 1048576: true; the input reads as it did. -/
def fnExactLongestInUptoRow : OpenClaim := { program := "ytjedkodimjijeaa", sum := "822549aed737d3c3f9c883a44f52b1cbde70fa08775525e0e6e44f9091997508", func := "loop.example/g00627/laws.FnExactLongestIn", spec := "fnExactLongestIn", apart := false, narrowed := true }
def FnExactLongestInUptoSaid : Prop := fnExactLongestInUptoRow.holds Try.pinned (OpenSpec.upto fnExactLongestInSpec)

/-- 'laws.FnExactTakeRun', WHERE WHAT IT READS IS OF BULK AT MOST 1048576: true; the input reads as it did. -/
def fnExactTakeRunUptoRow : OpenClaim := { program := "ytjedkodimjijeaa", sum := "822549aed737d3c3f9c883a44f52b1cbde70fa08775525e0e6e44f9091997508", func := "loop.example/g00627/laws.FnExactTakeRun", spec := "fnExactTakeRun", apart := false, narrowed := true }
def FnExactTakeRunUptoSaid : Prop := fnExactTakeRunUptoRow.holds Try.pinned (OpenSpec.upto fnExactTakeRunSpec)

/-- 'laws.FnExactGiveRun', WHERE WHAT IT READS IS OF BULK AT MOST 1048576: true; the input reads as it did. -/
def fnExactGiveRunUptoRow : OpenClaim := { program := "ytjedkodimjijeaa", sum := "822549aed737d3c3f9c883a44f52b1cbde70fa08775525e0e6e44f9091997508", func := "loop.example/g00627/laws.FnExactGiveRun", spec := "fnExactGiveRun", inPlace := ["slices.overlaps[loop.example/g00627/impl.Run]"], apart := false, narrowed := true }
def FnExactGiveRunUptoSaid : Prop := fnExactGiveRunUptoRow.holds Try.pinned (OpenSpec.upto fnExactGiveRunSpec)

/-- 'laws.FnExactPlayRuns', WHERE WHAT IT READS IS OF BULK AT MOST 1048576: true; the input reads as it did. -/
def fnExactPlayRunsUptoRow : OpenClaim := { program := "ytjedkodimjijeaa", sum := "822549aed737d3c3f9c883a44f52b1cbde70fa08775525e0e6e44f9091997508", func := "loop.example/g00627/laws.FnExactPlayRuns", spec := "fnExactPlayRuns", inPlace := ["slices.overlaps[loop.example/g00627/impl.Run]"], apart := false, narrowed := true }
def FnExactPlayRunsUptoSaid : Prop := fnExactPlayRunsUptoRow.holds Try.pinned (OpenSpec.upto fnExactPlayRunsSpec)

/-- 'laws.FnRuns', WHERE WHAT IT READS IS OF BULK AT MOST 1048576: true; the input reads as it did. -/
def fnRunsUptoRow : OpenClaim := { program := "ytjedkodimjijeaa", sum := "822549aed737d3c3f9c883a44f52b1cbde70fa08775525e0e6e44f9091997508", func := "loop.example/g00627/laws.FnRuns", spec := "fnRuns", inPlace := ["slices.overlaps[loop.example/g00627/impl.Run]"], apart := false, narrowed := true }
def FnRunsUptoSaid : Prop := fnRunsUptoRow.holds Try.pinned (OpenSpec.upto fnRunsSpec)

/-- 'laws.FnPlayed', WHERE WHAT IT READS IS OF BULK AT MOST 1048576: true; the input reads as it did. -/
def fnPlayedUptoRow : OpenClaim := { program := "ytjedkodimjijeaa", sum := "822549aed737d3c3f9c883a44f52b1cbde70fa08775525e0e6e44f9091997508", func := "loop.example/g00627/laws.FnPlayed", spec := "fnPlayed", inPlace := ["slices.overlaps[loop.example/g00627/impl.Run]"], apart := false, narrowed := true }
def FnPlayedUptoSaid : Prop := fnPlayedUptoRow.holds Try.pinned (OpenSpec.upto fnPlayedSpec)

/-- 'laws.FnExactGoodSpan', WHERE WHAT IT READS IS OF BULK AT MOST 1048576: true; the input reads as it did. -/
def fnExactGoodSpanUptoRow : OpenClaim := { program := "ytjedkodimjijeaa", sum := "822549aed737d3c3f9c883a44f52b1cbde70fa08775525e0e6e44f9091997508", func := "loop.example/g00627/laws.FnExactGoodSpan", spec := "fnExactGoodSpan", apart := false, narrowed := true }
def FnExactGoodSpanUptoSaid : Prop := fnExactGoodSpanUptoRow.holds Try.pinned (OpenSpec.upto fnExactGoodSpanSpec)

/-- 'laws.FnExactNewSpan', WHERE WHAT IT READS IS OF BULK AT MOST 1048576: true; the input reads as it did. -/
def fnExactNewSpanUptoRow : OpenClaim := { program := "ytjedkodimjijeaa", sum := "822549aed737d3c3f9c883a44f52b1cbde70fa08775525e0e6e44f9091997508", func := "loop.example/g00627/laws.FnExactNewSpan", spec := "fnExactNewSpan", apart := false, narrowed := true }
def FnExactNewSpanUptoSaid : Prop := fnExactNewSpanUptoRow.holds Try.pinned (OpenSpec.upto fnExactNewSpanSpec)

/-- 'laws.FnExactWordOf', WHERE WHAT IT READS IS OF BULK AT MOST 1048576: true; the input reads as it did. -/
def fnExactWordOfUptoRow : OpenClaim := { program := "ytjedkodimjijeaa", sum := "822549aed737d3c3f9c883a44f52b1cbde70fa08775525e0e6e44f9091997508", func := "loop.example/g00627/laws.FnExactWordOf", spec := "fnExactWordOf", apart := false, narrowed := true }
def FnExactWordOfUptoSaid : Prop := fnExactWordOfUptoRow.holds Try.pinned (OpenSpec.upto fnExactWordOfSpec)

end Rows
end Go.Proofs.Ytjedkodimjijeaa
