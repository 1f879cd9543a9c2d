-- Written by a program of the session, a changed copy of the kit's print: not the kit's own print; Lean checks it.
import Derived.Test.YtjpdbgobabjpkaaProg
import Derived.Below
import Derived.Deep.Draws
import Derived.Deep.AppendLies
import Derived.Maps.AppendAt
import Derived.OwnWalk
import Derived.Laws.BytesArg
import Derived.Laws.MakeOwn
import Derived.Laws.OwnMore
import Derived.Deep.OwnRows
import Derived.Tactics
import Derived.Lib.ConvBytes
import Derived.Laws.Slices
import Derived.WalkKit
import Derived.KernelRfl
import Derived.RowKit3
import Derived.Deep.LoopGhost
import Derived.Deep.QuietTactic
import Derived.BigQuiet
import Derived.WideLaws
import Derived.Deep.DeepCutAuto
import Derived.Deep.CutBlock
import Derived.Deep.RegionHeld3
import Derived.Laws.Rows
import Derived.Lib.AppendStr
import Derived.ArgAppend
import Derived.Laws.IdiomCopy
import Derived.OrdersHeld
import Derived.Laws.BitsLemmas
import Derived.RowKit
import Derived.Lib.SliceRun
import Derived.Shelf.Abstract
import Derived.Test.YtjpdbgobabjpkaaWWords
import Derived.Test.YtjpdbgobabjpkaaWLast
import Derived.Test.YtjpdbgobabjpkaaWTab
import Derived.Test.YtjpdbgobabjpkaaWFour
import Derived.Test.YtjpdbgobabjpkaaWQPut
import Derived.Test.YtjpdbgobabjpkaaWApart
import Derived.Test.YtjpdbgobabjpkaaWArr
import Derived.Test.YtjpdbgobabjpkaaWZeros
import Derived.Test.YtjpdbgobabjpkaaWFoot
import Derived.Test.YtjpdbgobabjpkaaWKept
import Derived.Test.YtjpdbgobabjpkaaWShare
import Derived.Test.YtjpdbgobabjpkaaWN
import Derived.Test.YtjpdbgobabjpkaaWFootNe
import Derived.Test.YtjpdbgobabjpkaaWAt
import Derived.Test.YtjpdbgobabjpkaaWEqStruct
import Derived.Test.YtjpdbgobabjpkaaWRepsOne
import Derived.Test.YtjpdbgobabjpkaaWInv
import Derived.Test.YtjpdbgobabjpkaaWInvWords
import Derived.Test.YtjpdbgobabjpkaaWGuard
import Derived.Test.YtjpdbgobabjpkaaWNEv
import Derived.Test.YtjpdbgobabjpkaaWMore
import Derived.Test.YtjpdbgobabjpkaaExtra
namespace Go.Proofs.Ytjpdbgobabjpkaa.QFnSizes
open Go.RowKit Go.Proofs.YtjpdbgobabjpkaaW.PrintWords Go.Proofs.YtjpdbgobabjpkaaW.PrintLast Go.Proofs.YtjpdbgobabjpkaaW.PrintMore
attribute [local go_sem] max2_int min2_int max_two min_two max_three min_three max_four min_four   -- for this text's walks alone
set_option linter.unusedVariables false
set_option linter.unusedSimpArgs false



def errW : Option Int → Value
  | none => .nilIface
  | some c => .iface 0 (.int .i64 c)
theorem errW_none : errW none = .nilIface := rfl
theorem errW_some (c : Int) : errW (some c) = .iface 0 (.int .i64 c) := rfl

theorem info3 : (Try.prog.info? 3).map (fun i => (i.zero, i.size, i.bytes)) = some (some (.int .i64 0), 1, 8) := by kernel_rfl
-- the values' own types

end Go.Proofs.Ytjpdbgobabjpkaa.QFnSizes
