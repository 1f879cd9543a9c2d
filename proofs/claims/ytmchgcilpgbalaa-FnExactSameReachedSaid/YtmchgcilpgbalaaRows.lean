/-
  No cell of these rows narrows 'for every input' (looked for: loops, veiled, ifaces, maps, wideKeys, modest, calm, conditions, laid).
  DERIVED. THE GIVEN ROWS OF THIS SEAT. 6 by the template 'for every input the law returns true; each argument reads behind the call as it read before'; 0 by the template 'total and deterministic' (their statements: YtmchgcilpgbalaaTotals.lean).
  GIVEN WITH THE SEED: the statements are not yours to turn. If you find one false, say at which input.
  Laid BY PROGRAM, IN A SANDBOX (cutbox-rows.mjs): the forced cells as the released guide's own fill.sh prints them over the translation 00188eee2c662faf… (all of the seat's roots in one cut). By AI agents, Wed Nov 11 2026. No macro, syntax, notation, axiom, sorry.
-/
import Derived.Test.YtmchgcilpgbalaaChecked
import GoSem.Claim
import GoSem.ClaimJoined
import GoSem.ClaimMapViews
import Derived.JoinedTies
import Derived.KernelRfl
namespace Go.Proofs.Ytmchgcilpgbalaa
/- THE CELL 'sum', in the pinned program and in every row, IS THE sha256 OF THE DUMP (.gsa) THAT YtmchgcilpgbalaaProg.lean LOADS. Nothing in Lean hashes anything: it is a label: what it is worth is what the hold of that sum in a sandbox is worth. -/
noncomputable def Try.pinned : Pinned := { name := "ytmchgcilpgbalaa", sum := "00188eee2c662faf4b7994c26df255de80b08bdfbd82b9a4ea1421e66225ef75", checked := Try.checked }
namespace Rows
def none {H : Type} : Left H := { results := [], args := [] }

/-- 'laws.FnExactStartColours': WHATEVER THE INPUT: true; the input reads as it did. -/
def fnExactStartColoursSpec : ChangeSpec := { name := "fnExactStartColours", fn := fun _ => fun
  | [d] => { results := [.lit (.bool true)], args := [d] }
  | _ => none }
def fnExactStartColoursRow : OpenClaim := { program := "ytmchgcilpgbalaa", sum := "00188eee2c662faf4b7994c26df255de80b08bdfbd82b9a4ea1421e66225ef75", func := "loop.example/g00627/laws.FnExactStartColours", spec := "fnExactStartColours", unfollowed := true, recurses := true, apart := false }
def FnExactStartColoursSaid : Prop := fnExactStartColoursRow.holds Try.pinned (OpenSpec.ofChange fnExactStartColoursSpec)

/-- ITS FALSE NEIGHBOUR: 'it returns false'. Refute it at one input. -/
def fnExactStartColoursWrong : ChangeSpec := { name := "fnExactStartColours", fn := fun _ => fun
  | [d] => { results := [.lit (.bool false)], args := [d] }
  | _ => none }
def FnExactStartColoursWrongFalsely : Prop := fnExactStartColoursRow.holds Try.pinned (OpenSpec.ofChange fnExactStartColoursWrong)

/-- 'laws.FnExactReachedIn': WHATEVER THE INPUT: true; the input reads as it did. -/
def fnExactReachedInSpec : ChangeSpec := { name := "fnExactReachedIn", fn := fun _ => fun
  | [d] => { results := [.lit (.bool true)], args := [d] }
  | _ => none }
def fnExactReachedInRow : OpenClaim := { program := "ytmchgcilpgbalaa", sum := "00188eee2c662faf4b7994c26df255de80b08bdfbd82b9a4ea1421e66225ef75", func := "loop.example/g00627/laws.FnExactReachedIn", spec := "fnExactReachedIn", unfollowed := true, recurses := true, apart := false }
def FnExactReachedInSaid : Prop := fnExactReachedInRow.holds Try.pinned (OpenSpec.ofChange fnExactReachedInSpec)

/-- ITS FALSE NEIGHBOUR: 'it returns false'. Refute it at one input. -/
def fnExactReachedInWrong : ChangeSpec := { name := "fnExactReachedIn", fn := fun _ => fun
  | [d] => { results := [.lit (.bool false)], args := [d] }
  | _ => none }
def FnExactReachedInWrongFalsely : Prop := fnExactReachedInRow.holds Try.pinned (OpenSpec.ofChange fnExactReachedInWrong)

/-- 'laws.FnExactReachFrom': WHATEVER THE INPUT: true; the input reads as it did. -/
def fnExactReachFromSpec : ChangeSpec := { name := "fnExactReachFrom", fn := fun _ => fun
  | [d1, d2] => { results := [.lit (.bool true)], args := [d1, d2] }
  | _ => none }
def fnExactReachFromRow : OpenClaim := { program := "ytmchgcilpgbalaa", sum := "00188eee2c662faf4b7994c26df255de80b08bdfbd82b9a4ea1421e66225ef75", func := "loop.example/g00627/laws.FnExactReachFrom", spec := "fnExactReachFrom", unfollowed := true, recurses := true, apart := false }
def FnExactReachFromSaid : Prop := fnExactReachFromRow.holds Try.pinned (OpenSpec.ofChange fnExactReachFromSpec)

/-- ITS FALSE NEIGHBOUR: 'it returns false'. Refute it at one input. -/
def fnExactReachFromWrong : ChangeSpec := { name := "fnExactReachFrom", fn := fun _ => fun
  | [d1, d2] => { results := [.lit (.bool false)], args := [d1, d2] }
  | _ => none }
def FnExactReachFromWrongFalsely : Prop := fnExactReachFromRow.holds Try.pinned (OpenSpec.ofChange fnExactReachFromWrong)

/-- 'laws.FnExactSameReached': WHATEVER THE INPUT: true; the input reads as it did. -/
def fnExactSameReachedSpec : ChangeSpec := { name := "fnExactSameReached", fn := fun _ => fun
  | [d1, d2] => { results := [.lit (.bool true)], args := [d1, d2] }
  | _ => none }
def fnExactSameReachedRow : OpenClaim := { program := "ytmchgcilpgbalaa", sum := "00188eee2c662faf4b7994c26df255de80b08bdfbd82b9a4ea1421e66225ef75", func := "loop.example/g00627/laws.FnExactSameReached", spec := "fnExactSameReached", unfollowed := true, recurses := true, apart := false }
def FnExactSameReachedSaid : Prop := fnExactSameReachedRow.holds Try.pinned (OpenSpec.ofChange fnExactSameReachedSpec)

/-- ITS FALSE NEIGHBOUR: 'it returns false'. Refute it at one input. -/
def fnExactSameReachedWrong : ChangeSpec := { name := "fnExactSameReached", fn := fun _ => fun
  | [d1, d2] => { results := [.lit (.bool false)], args := [d1, d2] }
  | _ => none }
def FnExactSameReachedWrongFalsely : Prop := fnExactSameReachedRow.holds Try.pinned (OpenSpec.ofChange fnExactSameReachedWrong)

/-- 'laws.FnExactRootsShaded': WHATEVER THE INPUT: true; the input reads as it did. -/
def fnExactRootsShadedSpec : ChangeSpec := { name := "fnExactRootsShaded", fn := fun _ => fun
  | [d1, d2] => { results := [.lit (.bool true)], args := [d1, d2] }
  | _ => none }
def fnExactRootsShadedRow : OpenClaim := { program := "ytmchgcilpgbalaa", sum := "00188eee2c662faf4b7994c26df255de80b08bdfbd82b9a4ea1421e66225ef75", func := "loop.example/g00627/laws.FnExactRootsShaded", spec := "fnExactRootsShaded", unfollowed := true, recurses := true, apart := false }
def FnExactRootsShadedSaid : Prop := fnExactRootsShadedRow.holds Try.pinned (OpenSpec.ofChange fnExactRootsShadedSpec)

/-- ITS FALSE NEIGHBOUR: 'it returns false'. Refute it at one input. -/
def fnExactRootsShadedWrong : ChangeSpec := { name := "fnExactRootsShaded", fn := fun _ => fun
  | [d1, d2] => { results := [.lit (.bool false)], args := [d1, d2] }
  | _ => none }
def FnExactRootsShadedWrongFalsely : Prop := fnExactRootsShadedRow.holds Try.pinned (OpenSpec.ofChange fnExactRootsShadedWrong)

/-- 'laws.FnExactScanThing': WHATEVER THE INPUT: true; the input reads as it did. -/
def fnExactScanThingSpec : ChangeSpec := { name := "fnExactScanThing", fn := fun _ => fun
  | [d1, d2, d3] => { results := [.lit (.bool true)], args := [d1, d2, d3] }
  | _ => none }
def fnExactScanThingRow : OpenClaim := { program := "ytmchgcilpgbalaa", sum := "00188eee2c662faf4b7994c26df255de80b08bdfbd82b9a4ea1421e66225ef75", func := "loop.example/g00627/laws.FnExactScanThing", spec := "fnExactScanThing", unfollowed := true, recurses := true, apart := false }
def FnExactScanThingSaid : Prop := fnExactScanThingRow.holds Try.pinned (OpenSpec.ofChange fnExactScanThingSpec)

/-- ITS FALSE NEIGHBOUR: 'it returns false'. Refute it at one input. -/
def fnExactScanThingWrong : ChangeSpec := { name := "fnExactScanThing", fn := fun _ => fun
  | [d1, d2, d3] => { results := [.lit (.bool false)], args := [d1, d2, d3] }
  | _ => none }
def FnExactScanThingWrongFalsely : Prop := fnExactScanThingRow.holds Try.pinned (OpenSpec.ofChange fnExactScanThingWrong)

/- THE SECOND FORM. 'bulk': how many values and letters a reading holds, each counted each time it is reached (what is shared counts as often as it is met; a slice's spare places count too). A statement '..UptoSaid' is the law's where the arguments, and the package variables that the reading takes, are together of bulk at most 1048576: NARROWER than '..Said'. Prove '..Said' where nothing that the law and all that it calls make is longer than what came in: it says more and counts as full. Else prove '..UptoSaid'. A law counts once. -/
mutual
def uptoBulk {H : Type} : DataW H → Nat
  | .lit (.string bytes) => bytes.length + 1
  | .lit _ => 1
  | .nil => 1
  | .ptr d => uptoBulk d + 1
  | .slice elems spare => uptoBulkAll elems + uptoBulkAll spare + 1
  | .agg parts => uptoBulkAll parts + 1
  | .iface _ d => uptoBulk d + 1
  | .map entries => uptoBulkEntries entries + 1
  | .held _ => 1
def uptoBulkAll {H : Type} : List (DataW H) → Nat
  | [] => 0
  | d :: r => uptoBulk d + uptoBulkAll r
def uptoBulkEntries {H : Type} : List (Lit × DataW H) → Nat
  | [] => 0
  | x :: r => uptoBulkEntry x + uptoBulkEntries r
def uptoBulkEntry {H : Type} : Lit × DataW H → Nat
  | (.string bytes, d) => bytes.length + uptoBulk d + 1
  | (_, d) => uptoBulk d + 1
 end
def uptoSmall : (H : Type) → List (DataW H) → Bool := fun _ ds => decide (uptoBulkAll ds ≤ 1048576)
def OpenSpec.upto (s : _root_.Go.ChangeSpec) : _root_.Go.OpenSpec := { _root_.Go.OpenSpec.ofChange s with cond := some uptoSmall }

/-- 'laws.FnExactStartColours', WHERE WHAT IT READS IS OF BULK AT MOST 1048576: true; the input reads as it did. -/
def fnExactStartColoursUptoRow : OpenClaim := { program := "ytmchgcilpgbalaa", sum := "00188eee2c662faf4b7994c26df255de80b08bdfbd82b9a4ea1421e66225ef75", func := "loop.example/g00627/laws.FnExactStartColours", spec := "fnExactStartColours", unfollowed := true, recurses := true, apart := false, narrowed := true }
def FnExactStartColoursUptoSaid : Prop := fnExactStartColoursUptoRow.holds Try.pinned (OpenSpec.upto fnExactStartColoursSpec)

/-- 'laws.FnExactReachedIn', WHERE WHAT IT READS IS OF BULK AT MOST 1048576: true; the input reads as it did. -/
def fnExactReachedInUptoRow : OpenClaim := { program := "ytmchgcilpgbalaa", sum := "00188eee2c662faf4b7994c26df255de80b08bdfbd82b9a4ea1421e66225ef75", func := "loop.example/g00627/laws.FnExactReachedIn", spec := "fnExactReachedIn", unfollowed := true, recurses := true, apart := false, narrowed := true }
def FnExactReachedInUptoSaid : Prop := fnExactReachedInUptoRow.holds Try.pinned (OpenSpec.upto fnExactReachedInSpec)

/-- 'laws.FnExactReachFrom', WHERE WHAT IT READS IS OF BULK AT MOST 1048576: true; the input reads as it did. -/
def fnExactReachFromUptoRow : OpenClaim := { program := "ytmchgcilpgbalaa", sum := "00188eee2c662faf4b7994c26df255de80b08bdfbd82b9a4ea1421e66225ef75", func := "loop.example/g00627/laws.FnExactReachFrom", spec := "fnExactReachFrom", unfollowed := true, recurses := true, apart := false, narrowed := true }
def FnExactReachFromUptoSaid : Prop := fnExactReachFromUptoRow.holds Try.pinned (OpenSpec.upto fnExactReachFromSpec)

/-- 'laws.FnExactSameReached', WHERE WHAT IT READS IS OF BULK AT MOST 1048576: true; the input reads as it did. -/
def fnExactSameReachedUptoRow : OpenClaim := { program := "ytmchgcilpgbalaa", sum := "00188eee2c662faf4b7994c26df255de80b08bdfbd82b9a4ea1421e66225ef75", func := "loop.example/g00627/laws.FnExactSameReached", spec := "fnExactSameReached", unfollowed := true, recurses := true, apart := false, narrowed := true }
def FnExactSameReachedUptoSaid : Prop := fnExactSameReachedUptoRow.holds Try.pinned (OpenSpec.upto fnExactSameReachedSpec)

/-- 'laws.FnExactRootsShaded', WHERE WHAT IT READS IS OF BULK AT MOST 1048576: true; the input reads as it did. -/
def fnExactRootsShadedUptoRow : OpenClaim := { program := "ytmchgcilpgbalaa", sum := "00188eee2c662faf4b7994c26df255de80b08bdfbd82b9a4ea1421e66225ef75", func := "loop.example/g00627/laws.FnExactRootsShaded", spec := "fnExactRootsShaded", unfollowed := true, recurses := true, apart := false, narrowed := true }
def FnExactRootsShadedUptoSaid : Prop := fnExactRootsShadedUptoRow.holds Try.pinned (OpenSpec.upto fnExactRootsShadedSpec)

/-- 'laws.FnExactScanThing', WHERE WHAT IT READS IS OF BULK AT MOST 1048576: true; the input reads as it did. -/
def fnExactScanThingUptoRow : OpenClaim := { program := "ytmchgcilpgbalaa", sum := "00188eee2c662faf4b7994c26df255de80b08bdfbd82b9a4ea1421e66225ef75", func := "loop.example/g00627/laws.FnExactScanThing", spec := "fnExactScanThing", unfollowed := true, recurses := true, apart := false, narrowed := true }
def FnExactScanThingUptoSaid : Prop := fnExactScanThingUptoRow.holds Try.pinned (OpenSpec.upto fnExactScanThingSpec)

end Rows
end Go.Proofs.Ytmchgcilpgbalaa
