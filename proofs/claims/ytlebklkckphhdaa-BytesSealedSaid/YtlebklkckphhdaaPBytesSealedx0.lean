/- A text of the session: functions of the program and their walks, laid by a program of its own (wip/tools/mkprint.py) over the translation. No condition. -/
import Derived.Test.YtlebklkckphhdaaProg
import Derived.Below
import Derived.Deep.Draws
import Derived.Deep.AppendLies
import Derived.Maps.AppendAt
import Derived.OwnWalk
import Derived.Laws.BytesArg
import Derived.Laws.MakeOwn
import Derived.Laws.OwnMore
import Derived.Deep.OwnRows
import Derived.Tactics
import Derived.Lib.ConvBytes
import Derived.Laws.Slices
import Derived.WalkKit
import Derived.KernelRfl
import Derived.RowKit3
import Derived.Deep.LoopGhost
import Derived.Deep.QuietTactic
import Derived.BigQuiet
import Derived.WideLaws
import Derived.Deep.DeepCutAuto
import Derived.Deep.CutBlock
import Derived.Deep.RegionHeld3
import Derived.Laws.Rows
import Derived.Lib.AppendStr
import Derived.ArgAppend
import Derived.Laws.IdiomCopy
import Derived.OrdersHeld
import Derived.Laws.BitsLemmas
import Derived.RowKit
import Derived.Test.YtlebklkckphhdaaWWords
import Derived.Test.YtlebklkckphhdaaWLast
import Derived.Test.YtlebklkckphhdaaWTab
import Derived.Test.YtlebklkckphhdaaWFour
import Derived.Test.YtlebklkckphhdaaWQPut
import Derived.Test.YtlebklkckphhdaaWApart
import Derived.Test.YtlebklkckphhdaaWArr
import Derived.Test.YtlebklkckphhdaaWZeros
import Derived.Test.YtlebklkckphhdaaWFoot
import Derived.Test.YtlebklkckphhdaaWKept
import Derived.Test.YtlebklkckphhdaaWShare
import Derived.Test.YtlebklkckphhdaaWN
import Derived.Test.YtlebklkckphhdaaWFootNe
import Derived.Test.YtlebklkckphhdaaWAt
import Derived.Test.YtlebklkckphhdaaWEqStruct
import Derived.Test.YtlebklkckphhdaaWRepsOne
import Derived.Test.YtlebklkckphhdaaWInv
import Derived.Test.YtlebklkckphhdaaWInvWords
import Derived.Test.YtlebklkckphhdaaWGuard
import Derived.Test.YtlebklkckphhdaaWNEv
import Derived.Test.YtlebklkckphhdaaWMore
import Derived.Test.YtlebklkckphhdaaXMore
namespace Go.Proofs.Ytlebklkckphhdaa.PBytesSealed
open Go.RowKit Go.Proofs.YtlebklkckphhdaaW.PrintWords Go.Proofs.YtlebklkckphhdaaW.PrintLast Go.Proofs.YtlebklkckphhdaaW.PrintMore
attribute [local go_sem] max2_int min2_int max_two min_two max_three min_three max_four min_four   -- for this text's walks alone
set_option linter.unusedVariables false
set_option linter.unusedSimpArgs false



def errW : Option Int → Value
  | none => .nilIface
  | some c => .iface 0 (.int .i64 c)
theorem errW_none : errW none = .nilIface := rfl
theorem errW_some (c : Int) : errW (some c) = .iface 0 (.int .i64 c) := rfl

theorem info5 : (Try.prog.info? 5).map (fun i => (i.zero, i.size, i.bytes)) = some (some (.int .u8 0), 1, 1) := by kernel_rfl
theorem info49 : (Try.prog.info? 49).map (fun i => (i.zero, i.size, i.bytes)) = some (some (.int .i8 0), 1, 1) := by kernel_rfl
-- the values' own types

end Go.Proofs.Ytlebklkckphhdaa.PBytesSealed
