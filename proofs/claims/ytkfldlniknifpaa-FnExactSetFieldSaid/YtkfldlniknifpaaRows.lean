/-
  No cell of these rows narrows 'for every input' (looked for: loops, veiled, ifaces, maps, wideKeys, modest, calm, conditions, laid).
  DERIVED. THE GIVEN ROWS OF THIS SEAT. 11 by the template 'for every input the law returns true; each argument reads behind the call as it read before'; 0 by the template 'total and deterministic' (their statements: YtkfldlniknifpaaTotals.lean).
  GIVEN WITH THE SEED: the statements are not yours to turn. If you find one false, say at which input.
  Laid BY PROGRAM, IN A SANDBOX (cutbox-rows.mjs): the forced cells as the released guide's own fill.sh prints them over the translation 0459b7d207436fbc… (all of the seat's roots in one cut). By AI agents, Wed Nov 11 2026. No macro, syntax, notation, axiom, sorry.
-/
import Derived.Test.YtkfldlniknifpaaChecked
import GoSem.Claim
import GoSem.ClaimJoined
import GoSem.ClaimMapViews
import Derived.JoinedTies
import Derived.KernelRfl
namespace Go.Proofs.Ytkfldlniknifpaa
/- THE CELL 'sum', in the pinned program and in every row, IS THE sha256 OF THE DUMP (.gsa) THAT YtkfldlniknifpaaProg.lean LOADS. Nothing in Lean hashes anything: it is a label: what it is worth is what the hold of that sum in a sandbox is worth. -/
noncomputable def Try.pinned : Pinned := { name := "ytkfldlniknifpaa", sum := "0459b7d207436fbca3cef8e873fc7f2ad9ee3f1422503d04c9078cdfca9f8ea6", checked := Try.checked }
namespace Rows
def none {H : Type} : Left H := { results := [], args := [] }

/-- 'laws.FnExactWeakIn': WHATEVER THE INPUT: true; the input reads as it did. -/
def fnExactWeakInSpec : ChangeSpec := { name := "fnExactWeakIn", fn := fun _ => fun
  | [d1, d2] => { results := [.lit (.bool true)], args := [d1, d2] }
  | _ => none }
def fnExactWeakInRow : OpenClaim := { program := "ytkfldlniknifpaa", sum := "0459b7d207436fbca3cef8e873fc7f2ad9ee3f1422503d04c9078cdfca9f8ea6", func := "loop.example/g00627/laws.FnExactWeakIn", spec := "fnExactWeakIn", unfollowed := true, recurses := true, apart := false }
def FnExactWeakInSaid : Prop := fnExactWeakInRow.holds Try.pinned (OpenSpec.ofChange fnExactWeakInSpec)

/-- ITS FALSE NEIGHBOUR: 'it returns false'. Refute it at one input. -/
def fnExactWeakInWrong : ChangeSpec := { name := "fnExactWeakIn", fn := fun _ => fun
  | [d1, d2] => { results := [.lit (.bool false)], args := [d1, d2] }
  | _ => none }
def FnExactWeakInWrongFalsely : Prop := fnExactWeakInRow.holds Try.pinned (OpenSpec.ofChange fnExactWeakInWrong)

/-- 'laws.FnExactKeptFrom': WHATEVER THE INPUT: true; the input reads as it did. -/
def fnExactKeptFromSpec : ChangeSpec := { name := "fnExactKeptFrom", fn := fun _ => fun
  | [d] => { results := [.lit (.bool true)], args := [d] }
  | _ => none }
def fnExactKeptFromRow : OpenClaim := { program := "ytkfldlniknifpaa", sum := "0459b7d207436fbca3cef8e873fc7f2ad9ee3f1422503d04c9078cdfca9f8ea6", func := "loop.example/g00627/laws.FnExactKeptFrom", spec := "fnExactKeptFrom", unfollowed := true, recurses := true, apart := false }
def FnExactKeptFromSaid : Prop := fnExactKeptFromRow.holds Try.pinned (OpenSpec.ofChange fnExactKeptFromSpec)

/-- ITS FALSE NEIGHBOUR: 'it returns false'. Refute it at one input. -/
def fnExactKeptFromWrong : ChangeSpec := { name := "fnExactKeptFrom", fn := fun _ => fun
  | [d] => { results := [.lit (.bool false)], args := [d] }
  | _ => none }
def FnExactKeptFromWrongFalsely : Prop := fnExactKeptFromRow.holds Try.pinned (OpenSpec.ofChange fnExactKeptFromWrong)

/-- 'laws.FnExactBehindGreys': WHATEVER THE INPUT: true; the input reads as it did. -/
def fnExactBehindGreysSpec : ChangeSpec := { name := "fnExactBehindGreys", fn := fun _ => fun
  | [d1, d2] => { results := [.lit (.bool true)], args := [d1, d2] }
  | _ => none }
def fnExactBehindGreysRow : OpenClaim := { program := "ytkfldlniknifpaa", sum := "0459b7d207436fbca3cef8e873fc7f2ad9ee3f1422503d04c9078cdfca9f8ea6", func := "loop.example/g00627/laws.FnExactBehindGreys", spec := "fnExactBehindGreys", unfollowed := true, recurses := true, apart := false }
def FnExactBehindGreysSaid : Prop := fnExactBehindGreysRow.holds Try.pinned (OpenSpec.ofChange fnExactBehindGreysSpec)

/-- ITS FALSE NEIGHBOUR: 'it returns false'. Refute it at one input. -/
def fnExactBehindGreysWrong : ChangeSpec := { name := "fnExactBehindGreys", fn := fun _ => fun
  | [d1, d2] => { results := [.lit (.bool false)], args := [d1, d2] }
  | _ => none }
def FnExactBehindGreysWrongFalsely : Prop := fnExactBehindGreysRow.holds Try.pinned (OpenSpec.ofChange fnExactBehindGreysWrong)

/-- 'laws.FnExactSetField': WHATEVER THE INPUT: true; the input reads as it did. -/
def fnExactSetFieldSpec : ChangeSpec := { name := "fnExactSetField", fn := fun _ => fun
  | [d1, d2, d3, d4] => { results := [.lit (.bool true)], args := [d1, d2, d3, d4] }
  | _ => none }
def fnExactSetFieldRow : OpenClaim := { program := "ytkfldlniknifpaa", sum := "0459b7d207436fbca3cef8e873fc7f2ad9ee3f1422503d04c9078cdfca9f8ea6", func := "loop.example/g00627/laws.FnExactSetField", spec := "fnExactSetField", unfollowed := true, recurses := true, apart := false }
def FnExactSetFieldSaid : Prop := fnExactSetFieldRow.holds Try.pinned (OpenSpec.ofChange fnExactSetFieldSpec)

/-- ITS FALSE NEIGHBOUR: 'it returns false'. Refute it at one input. -/
def fnExactSetFieldWrong : ChangeSpec := { name := "fnExactSetField", fn := fun _ => fun
  | [d1, d2, d3, d4] => { results := [.lit (.bool false)], args := [d1, d2, d3, d4] }
  | _ => none }
def FnExactSetFieldWrongFalsely : Prop := fnExactSetFieldRow.holds Try.pinned (OpenSpec.ofChange fnExactSetFieldWrong)

/-- 'laws.FnExactSetRoot': WHATEVER THE INPUT: true; the input reads as it did. -/
def fnExactSetRootSpec : ChangeSpec := { name := "fnExactSetRoot", fn := fun _ => fun
  | [d1, d2, d3] => { results := [.lit (.bool true)], args := [d1, d2, d3] }
  | _ => none }
def fnExactSetRootRow : OpenClaim := { program := "ytkfldlniknifpaa", sum := "0459b7d207436fbca3cef8e873fc7f2ad9ee3f1422503d04c9078cdfca9f8ea6", func := "loop.example/g00627/laws.FnExactSetRoot", spec := "fnExactSetRoot", unfollowed := true, recurses := true, apart := false }
def FnExactSetRootSaid : Prop := fnExactSetRootRow.holds Try.pinned (OpenSpec.ofChange fnExactSetRootSpec)

/-- ITS FALSE NEIGHBOUR: 'it returns false'. Refute it at one input. -/
def fnExactSetRootWrong : ChangeSpec := { name := "fnExactSetRoot", fn := fun _ => fun
  | [d1, d2, d3] => { results := [.lit (.bool false)], args := [d1, d2, d3] }
  | _ => none }
def FnExactSetRootWrongFalsely : Prop := fnExactSetRootRow.holds Try.pinned (OpenSpec.ofChange fnExactSetRootWrong)

/-- 'laws.FnExactGoOn': WHATEVER THE INPUT: true; the input reads as it did. -/
def fnExactGoOnSpec : ChangeSpec := { name := "fnExactGoOn", fn := fun _ => fun
  | [d1, d2] => { results := [.lit (.bool true)], args := [d1, d2] }
  | _ => none }
def fnExactGoOnRow : OpenClaim := { program := "ytkfldlniknifpaa", sum := "0459b7d207436fbca3cef8e873fc7f2ad9ee3f1422503d04c9078cdfca9f8ea6", func := "loop.example/g00627/laws.FnExactGoOn", spec := "fnExactGoOn", unfollowed := true, recurses := true, apart := false }
def FnExactGoOnSaid : Prop := fnExactGoOnRow.holds Try.pinned (OpenSpec.ofChange fnExactGoOnSpec)

/-- ITS FALSE NEIGHBOUR: 'it returns false'. Refute it at one input. -/
def fnExactGoOnWrong : ChangeSpec := { name := "fnExactGoOn", fn := fun _ => fun
  | [d1, d2] => { results := [.lit (.bool false)], args := [d1, d2] }
  | _ => none }
def FnExactGoOnWrongFalsely : Prop := fnExactGoOnRow.holds Try.pinned (OpenSpec.ofChange fnExactGoOnWrong)

/-- 'laws.FnExactMarkAll': WHATEVER THE INPUT: true; the input reads as it did. -/
def fnExactMarkAllSpec : ChangeSpec := { name := "fnExactMarkAll", fn := fun _ => fun
  | [d1, d2] => { results := [.lit (.bool true)], args := [d1, d2] }
  | _ => none }
def fnExactMarkAllRow : OpenClaim := { program := "ytkfldlniknifpaa", sum := "0459b7d207436fbca3cef8e873fc7f2ad9ee3f1422503d04c9078cdfca9f8ea6", func := "loop.example/g00627/laws.FnExactMarkAll", spec := "fnExactMarkAll", unfollowed := true, recurses := true, apart := false }
def FnExactMarkAllSaid : Prop := fnExactMarkAllRow.holds Try.pinned (OpenSpec.ofChange fnExactMarkAllSpec)

/-- ITS FALSE NEIGHBOUR: 'it returns false'. Refute it at one input. -/
def fnExactMarkAllWrong : ChangeSpec := { name := "fnExactMarkAll", fn := fun _ => fun
  | [d1, d2] => { results := [.lit (.bool false)], args := [d1, d2] }
  | _ => none }
def FnExactMarkAllWrongFalsely : Prop := fnExactMarkAllRow.holds Try.pinned (OpenSpec.ofChange fnExactMarkAllWrong)

/-- 'laws.FnExactStartMarking': WHATEVER THE INPUT: true; the input reads as it did. -/
def fnExactStartMarkingSpec : ChangeSpec := { name := "fnExactStartMarking", fn := fun _ => fun
  | [d] => { results := [.lit (.bool true)], args := [d] }
  | _ => none }
def fnExactStartMarkingRow : OpenClaim := { program := "ytkfldlniknifpaa", sum := "0459b7d207436fbca3cef8e873fc7f2ad9ee3f1422503d04c9078cdfca9f8ea6", func := "loop.example/g00627/laws.FnExactStartMarking", spec := "fnExactStartMarking", unfollowed := true, recurses := true, apart := false }
def FnExactStartMarkingSaid : Prop := fnExactStartMarkingRow.holds Try.pinned (OpenSpec.ofChange fnExactStartMarkingSpec)

/-- ITS FALSE NEIGHBOUR: 'it returns false'. Refute it at one input. -/
def fnExactStartMarkingWrong : ChangeSpec := { name := "fnExactStartMarking", fn := fun _ => fun
  | [d] => { results := [.lit (.bool false)], args := [d] }
  | _ => none }
def FnExactStartMarkingWrongFalsely : Prop := fnExactStartMarkingRow.holds Try.pinned (OpenSpec.ofChange fnExactStartMarkingWrong)

/-- 'laws.FnExactCleanHeap': WHATEVER THE INPUT: true; the input reads as it did. -/
def fnExactCleanHeapSpec : ChangeSpec := { name := "fnExactCleanHeap", fn := fun _ => fun
  | [d] => { results := [.lit (.bool true)], args := [d] }
  | _ => none }
def fnExactCleanHeapRow : OpenClaim := { program := "ytkfldlniknifpaa", sum := "0459b7d207436fbca3cef8e873fc7f2ad9ee3f1422503d04c9078cdfca9f8ea6", func := "loop.example/g00627/laws.FnExactCleanHeap", spec := "fnExactCleanHeap", unfollowed := true, recurses := true, apart := false }
def FnExactCleanHeapSaid : Prop := fnExactCleanHeapRow.holds Try.pinned (OpenSpec.ofChange fnExactCleanHeapSpec)

/-- ITS FALSE NEIGHBOUR: 'it returns false'. Refute it at one input. -/
def fnExactCleanHeapWrong : ChangeSpec := { name := "fnExactCleanHeap", fn := fun _ => fun
  | [d] => { results := [.lit (.bool false)], args := [d] }
  | _ => none }
def FnExactCleanHeapWrongFalsely : Prop := fnExactCleanHeapRow.holds Try.pinned (OpenSpec.ofChange fnExactCleanHeapWrong)

/-- 'laws.FnExactNewThing': WHATEVER THE INPUT: true; the input reads as it did. -/
def fnExactNewThingSpec : ChangeSpec := { name := "fnExactNewThing", fn := fun _ => fun
  | [d1, d2] => { results := [.lit (.bool true)], args := [d1, d2] }
  | _ => none }
def fnExactNewThingRow : OpenClaim := { program := "ytkfldlniknifpaa", sum := "0459b7d207436fbca3cef8e873fc7f2ad9ee3f1422503d04c9078cdfca9f8ea6", func := "loop.example/g00627/laws.FnExactNewThing", spec := "fnExactNewThing", unfollowed := true, recurses := true, apart := false }
def FnExactNewThingSaid : Prop := fnExactNewThingRow.holds Try.pinned (OpenSpec.ofChange fnExactNewThingSpec)

/-- ITS FALSE NEIGHBOUR: 'it returns false'. Refute it at one input. -/
def fnExactNewThingWrong : ChangeSpec := { name := "fnExactNewThing", fn := fun _ => fun
  | [d1, d2] => { results := [.lit (.bool false)], args := [d1, d2] }
  | _ => none }
def FnExactNewThingWrongFalsely : Prop := fnExactNewThingRow.holds Try.pinned (OpenSpec.ofChange fnExactNewThingWrong)

/-- 'laws.FnExactEndMarking': WHATEVER THE INPUT: true; the input reads as it did. -/
def fnExactEndMarkingSpec : ChangeSpec := { name := "fnExactEndMarking", fn := fun _ => fun
  | [d1, d2] => { results := [.lit (.bool true)], args := [d1, d2] }
  | _ => none }
def fnExactEndMarkingRow : OpenClaim := { program := "ytkfldlniknifpaa", sum := "0459b7d207436fbca3cef8e873fc7f2ad9ee3f1422503d04c9078cdfca9f8ea6", func := "loop.example/g00627/laws.FnExactEndMarking", spec := "fnExactEndMarking", unfollowed := true, recurses := true, apart := false }
def FnExactEndMarkingSaid : Prop := fnExactEndMarkingRow.holds Try.pinned (OpenSpec.ofChange fnExactEndMarkingSpec)

/-- ITS FALSE NEIGHBOUR: 'it returns false'. Refute it at one input. -/
def fnExactEndMarkingWrong : ChangeSpec := { name := "fnExactEndMarking", fn := fun _ => fun
  | [d1, d2] => { results := [.lit (.bool false)], args := [d1, d2] }
  | _ => none }
def FnExactEndMarkingWrongFalsely : Prop := fnExactEndMarkingRow.holds Try.pinned (OpenSpec.ofChange fnExactEndMarkingWrong)

/- THE SECOND FORM. 'bulk': how many values and letters a reading holds, each counted each time it is reached (what is shared counts as often as it is met; a slice's spare places count too). A statement '..UptoSaid' is the law's where the arguments, and the package variables that the reading takes, are together of bulk at most 1048576: NARROWER than '..Said'. Prove '..Said' where nothing that the law and all that it calls make is longer than what came in: it says more and counts as full. Else prove '..UptoSaid'. A law counts once. -/
mutual
def uptoBulk {H : Type} : DataW H → Nat
  | .lit (.string bytes) => bytes.length + 1
  | .lit _ => 1
  | .nil => 1
  | .ptr d => uptoBulk d + 1
  | .slice elems spare => uptoBulkAll elems + uptoBulkAll spare + 1
  | .agg parts => uptoBulkAll parts + 1
  | .iface _ d => uptoBulk d + 1
  | .map entries => uptoBulkEntries entries + 1
  | .held _ => 1
def uptoBulkAll {H : Type} : List (DataW H) → Nat
  | [] => 0
  | d :: r => uptoBulk d + uptoBulkAll r
def uptoBulkEntries {H : Type} : List (Lit × DataW H) → Nat
  | [] => 0
  | x :: r => uptoBulkEntry x + uptoBulkEntries r
def uptoBulkEntry {H : Type} : Lit × DataW H → Nat
  | (.string bytes, d) => bytes.length + uptoBulk d + 1
  | (_, d) => uptoBulk d + 1
 end
def uptoSmall : (H : Type) → List (DataW H) → Bool := fun _ ds => decide (uptoBulkAll ds ≤ 1048576)
def OpenSpec.upto (s : _root_.Go.ChangeSpec) : _root_.Go.OpenSpec := { _root_.Go.OpenSpec.ofChange s with cond := some uptoSmall }

/-- 'laws.FnExactWeakIn', WHERE WHAT IT READS IS OF BULK AT MOST 1048576: true; the input reads as it did. -/
def fnExactWeakInUptoRow : OpenClaim := { program := "ytkfldlniknifpaa", sum := "0459b7d207436fbca3cef8e873fc7f2ad9ee3f1422503d04c9078cdfca9f8ea6", func := "loop.example/g00627/laws.FnExactWeakIn", spec := "fnExactWeakIn", unfollowed := true, recurses := true, apart := false, narrowed := true }
def FnExactWeakInUptoSaid : Prop := fnExactWeakInUptoRow.holds Try.pinned (OpenSpec.upto fnExactWeakInSpec)

/-- 'laws.FnExactKeptFrom', WHERE WHAT IT READS IS OF BULK AT MOST 1048576: true; the input reads as it did. -/
def fnExactKeptFromUptoRow : OpenClaim := { program := "ytkfldlniknifpaa", sum := "0459b7d207436fbca3cef8e873fc7f2ad9ee3f1422503d04c9078cdfca9f8ea6", func := "loop.example/g00627/laws.FnExactKeptFrom", spec := "fnExactKeptFrom", unfollowed := true, recurses := true, apart := false, narrowed := true }
def FnExactKeptFromUptoSaid : Prop := fnExactKeptFromUptoRow.holds Try.pinned (OpenSpec.upto fnExactKeptFromSpec)

/-- 'laws.FnExactBehindGreys', WHERE WHAT IT READS IS OF BULK AT MOST 1048576: true; the input reads as it did. -/
def fnExactBehindGreysUptoRow : OpenClaim := { program := "ytkfldlniknifpaa", sum := "0459b7d207436fbca3cef8e873fc7f2ad9ee3f1422503d04c9078cdfca9f8ea6", func := "loop.example/g00627/laws.FnExactBehindGreys", spec := "fnExactBehindGreys", unfollowed := true, recurses := true, apart := false, narrowed := true }
def FnExactBehindGreysUptoSaid : Prop := fnExactBehindGreysUptoRow.holds Try.pinned (OpenSpec.upto fnExactBehindGreysSpec)

/-- 'laws.FnExactSetField', WHERE WHAT IT READS IS OF BULK AT MOST 1048576: true; the input reads as it did. -/
def fnExactSetFieldUptoRow : OpenClaim := { program := "ytkfldlniknifpaa", sum := "0459b7d207436fbca3cef8e873fc7f2ad9ee3f1422503d04c9078cdfca9f8ea6", func := "loop.example/g00627/laws.FnExactSetField", spec := "fnExactSetField", unfollowed := true, recurses := true, apart := false, narrowed := true }
def FnExactSetFieldUptoSaid : Prop := fnExactSetFieldUptoRow.holds Try.pinned (OpenSpec.upto fnExactSetFieldSpec)

/-- 'laws.FnExactSetRoot', WHERE WHAT IT READS IS OF BULK AT MOST 1048576: true; the input reads as it did. -/
def fnExactSetRootUptoRow : OpenClaim := { program := "ytkfldlniknifpaa", sum := "0459b7d207436fbca3cef8e873fc7f2ad9ee3f1422503d04c9078cdfca9f8ea6", func := "loop.example/g00627/laws.FnExactSetRoot", spec := "fnExactSetRoot", unfollowed := true, recurses := true, apart := false, narrowed := true }
def FnExactSetRootUptoSaid : Prop := fnExactSetRootUptoRow.holds Try.pinned (OpenSpec.upto fnExactSetRootSpec)

/-- 'laws.FnExactGoOn', WHERE WHAT IT READS IS OF BULK AT MOST 1048576: true; the input reads as it did. -/
def fnExactGoOnUptoRow : OpenClaim := { program := "ytkfldlniknifpaa", sum := "0459b7d207436fbca3cef8e873fc7f2ad9ee3f1422503d04c9078cdfca9f8ea6", func := "loop.example/g00627/laws.FnExactGoOn", spec := "fnExactGoOn", unfollowed := true, recurses := true, apart := false, narrowed := true }
def FnExactGoOnUptoSaid : Prop := fnExactGoOnUptoRow.holds Try.pinned (OpenSpec.upto fnExactGoOnSpec)

/-- 'laws.FnExactMarkAll', WHERE WHAT IT READS IS OF BULK AT MOST 1048576: true; the input reads as it did. -/
def fnExactMarkAllUptoRow : OpenClaim := { program := "ytkfldlniknifpaa", sum := "0459b7d207436fbca3cef8e873fc7f2ad9ee3f1422503d04c9078cdfca9f8ea6", func := "loop.example/g00627/laws.FnExactMarkAll", spec := "fnExactMarkAll", unfollowed := true, recurses := true, apart := false, narrowed := true }
def FnExactMarkAllUptoSaid : Prop := fnExactMarkAllUptoRow.holds Try.pinned (OpenSpec.upto fnExactMarkAllSpec)

/-- 'laws.FnExactStartMarking', WHERE WHAT IT READS IS OF BULK AT MOST 1048576: true; the input reads as it did. -/
def fnExactStartMarkingUptoRow : OpenClaim := { program := "ytkfldlniknifpaa", sum := "0459b7d207436fbca3cef8e873fc7f2ad9ee3f1422503d04c9078cdfca9f8ea6", func := "loop.example/g00627/laws.FnExactStartMarking", spec := "fnExactStartMarking", unfollowed := true, recurses := true, apart := false, narrowed := true }
def FnExactStartMarkingUptoSaid : Prop := fnExactStartMarkingUptoRow.holds Try.pinned (OpenSpec.upto fnExactStartMarkingSpec)

/-- 'laws.FnExactCleanHeap', WHERE WHAT IT READS IS OF BULK AT MOST 1048576: true; the input reads as it did. -/
def fnExactCleanHeapUptoRow : OpenClaim := { program := "ytkfldlniknifpaa", sum := "0459b7d207436fbca3cef8e873fc7f2ad9ee3f1422503d04c9078cdfca9f8ea6", func := "loop.example/g00627/laws.FnExactCleanHeap", spec := "fnExactCleanHeap", unfollowed := true, recurses := true, apart := false, narrowed := true }
def FnExactCleanHeapUptoSaid : Prop := fnExactCleanHeapUptoRow.holds Try.pinned (OpenSpec.upto fnExactCleanHeapSpec)

/-- 'laws.FnExactNewThing', WHERE WHAT IT READS IS OF BULK AT MOST 1048576: true; the input reads as it did. -/
def fnExactNewThingUptoRow : OpenClaim := { program := "ytkfldlniknifpaa", sum := "0459b7d207436fbca3cef8e873fc7f2ad9ee3f1422503d04c9078cdfca9f8ea6", func := "loop.example/g00627/laws.FnExactNewThing", spec := "fnExactNewThing", unfollowed := true, recurses := true, apart := false, narrowed := true }
def FnExactNewThingUptoSaid : Prop := fnExactNewThingUptoRow.holds Try.pinned (OpenSpec.upto fnExactNewThingSpec)

/-- 'laws.FnExactEndMarking', WHERE WHAT IT READS IS OF BULK AT MOST 1048576: true; the input reads as it did. -/
def fnExactEndMarkingUptoRow : OpenClaim := { program := "ytkfldlniknifpaa", sum := "0459b7d207436fbca3cef8e873fc7f2ad9ee3f1422503d04c9078cdfca9f8ea6", func := "loop.example/g00627/laws.FnExactEndMarking", spec := "fnExactEndMarking", unfollowed := true, recurses := true, apart := false, narrowed := true }
def FnExactEndMarkingUptoSaid : Prop := fnExactEndMarkingUptoRow.holds Try.pinned (OpenSpec.upto fnExactEndMarkingSpec)

end Rows
end Go.Proofs.Ytkfldlniknifpaa
