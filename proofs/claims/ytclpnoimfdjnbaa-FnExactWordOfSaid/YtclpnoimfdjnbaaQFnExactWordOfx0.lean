-- Written by a program of the session, a changed copy of the kit's print: not the kit's own print; Lean checks it.
import Derived.Test.YtclpnoimfdjnbaaProg
import Derived.Below
import Derived.Deep.Draws
import Derived.Deep.AppendLies
import Derived.Maps.AppendAt
import Derived.OwnWalk
import Derived.Laws.BytesArg
import Derived.Laws.MakeOwn
import Derived.Laws.OwnMore
import Derived.Deep.OwnRows
import Derived.Tactics
import Derived.Lib.ConvBytes
import Derived.Laws.Slices
import Derived.WalkKit
import Derived.KernelRfl
import Derived.RowKit3
import Derived.Deep.LoopGhost
import Derived.Deep.QuietTactic
import Derived.BigQuiet
import Derived.WideLaws
import Derived.Deep.DeepCutAuto
import Derived.Deep.CutBlock
import Derived.Deep.RegionHeld3
import Derived.Laws.Rows
import Derived.Lib.AppendStr
import Derived.ArgAppend
import Derived.Laws.IdiomCopy
import Derived.OrdersHeld
import Derived.Laws.BitsLemmas
import Derived.RowKit
import Derived.Lib.SliceRun
import Derived.Shelf.Abstract
import Derived.Test.YtclpnoimfdjnbaaWWords
import Derived.Test.YtclpnoimfdjnbaaWLast
import Derived.Test.YtclpnoimfdjnbaaWTab
import Derived.Test.YtclpnoimfdjnbaaWFour
import Derived.Test.YtclpnoimfdjnbaaWQPut
import Derived.Test.YtclpnoimfdjnbaaWApart
import Derived.Test.YtclpnoimfdjnbaaWArr
import Derived.Test.YtclpnoimfdjnbaaWZeros
import Derived.Test.YtclpnoimfdjnbaaWFoot
import Derived.Test.YtclpnoimfdjnbaaWKept
import Derived.Test.YtclpnoimfdjnbaaWShare
import Derived.Test.YtclpnoimfdjnbaaWN
import Derived.Test.YtclpnoimfdjnbaaWFootNe
import Derived.Test.YtclpnoimfdjnbaaWAt
import Derived.Test.YtclpnoimfdjnbaaWEqStruct
import Derived.Test.YtclpnoimfdjnbaaWRepsOne
import Derived.Test.YtclpnoimfdjnbaaWInv
import Derived.Test.YtclpnoimfdjnbaaWInvWords
import Derived.Test.YtclpnoimfdjnbaaWGuard
import Derived.Test.YtclpnoimfdjnbaaWNEv
import Derived.Test.YtclpnoimfdjnbaaWMore
import Derived.Test.YtclpnoimfdjnbaaExtra
namespace Go.Proofs.Ytclpnoimfdjnbaa.QFnExactWordOf
open Go.RowKit Go.Proofs.YtclpnoimfdjnbaaW.PrintWords Go.Proofs.YtclpnoimfdjnbaaW.PrintLast Go.Proofs.YtclpnoimfdjnbaaW.PrintMore
attribute [local go_sem] max2_int min2_int max_two min_two max_three min_three max_four min_four   -- for this text's walks alone
set_option linter.unusedVariables false
set_option linter.unusedSimpArgs false



def errW : Option Int → Value
  | none => .nilIface
  | some c => .iface 0 (.int .i64 c)
theorem errW_none : errW none = .nilIface := rfl
theorem errW_some (c : Int) : errW (some c) = .iface 0 (.int .i64 c) := rfl

theorem info3 : (Try.prog.info? 3).map (fun i => (i.zero, i.size, i.bytes)) = some (some (.int .i64 0), 1, 8) := by kernel_rfl
-- the values' own types

end Go.Proofs.Ytclpnoimfdjnbaa.QFnExactWordOf
